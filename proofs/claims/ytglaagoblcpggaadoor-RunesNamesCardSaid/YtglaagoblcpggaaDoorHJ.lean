/- runes.thing: its cases, joined. -/
import Derived.Test.YtglaagoblcpggaaDoorHZ
set_option linter.unusedVariables false
set_option linter.unusedSimpArgs false
namespace Go.Proofs.YtglaagoblcpggaaDoor.R
open Go.RowKit Go.Proofs.YtglaagoblcpggaaDoorW.PrintWords


/-- WHAT runes.thing COMPUTES, of a text that is not empty: what its beginning stands for, and how many bytes that takes (0: nothing). -/
def thingU (s : ByteArray) (h : Nat) : ByteArray × Nat :=
  match (if (s.extract 2 (2 + h)).size = 0 then none else hexM 4294967295 0 (s.extract 2 (2 + h)).data.toList) with
  | none => (⟨#[]⟩, 0)
  | some n => if 1114111 < n ∨ Lib.validRune (n : Int) = false ∨ (32 ≤ n ∧ n ≤ 126) ∨ ((s.get! 2).toNat = 48 ∧ 1 < h) ∨ Lib.hasPrefix (s.extract (2 + h) s.size).data.toList [59] = false then (⟨#[]⟩, 0) else (Utf8.encode (n : Int), h + 3)
def thingP (s : ByteArray) : ByteArray × Nat :=
  if (s.get! 0).toNat ≠ 92 then (if (s.get! 0).toNat < 32 ∨ 126 < (s.get! 0).toNat then (⟨#[]⟩, 0) else (s.extract 0 1, 1))
  else if s.size < 2 then (⟨#[]⟩, 0)
  else if (s.get! 1).toNat = 34 ∨ (s.get! 1).toNat = 92 then (s.extract 1 2, 2)
  else if (s.get! 1).toNat = 120 then (if sixteens s < 2 ∨ (s.get! 2).toNat < 56 then (⟨#[]⟩, 0) else (⟨#[UInt8.ofNat ((hexM 255 0 (s.extract 2 4).data.toList).getD 0)]⟩, 4))
  else if (s.get! 1).toNat = 117 then thingU s (sixteens s)
  else (⟨#[]⟩, 0)
theorem hexM_le (M : Nat) : ∀ (l : List UInt8) (acc n : Nat), acc ≤ M → hexM M acc l = some n → n ≤ M
  | [], acc, n, h, e => by
    have := Option.some.inj e
    omega
  | c :: l, acc, n, h, e => by
    unfold hexM at e
    by_cases g : M < acc * 16 + hexv c
    · rw [if_pos g] at e; cases e
    · rw [if_neg g] at e
      exact hexM_le M l _ n (by omega) e
theorem hexv_lt (c : UInt8) (h : isHexB c = true) : hexv c < 16 := by
  simp only [isHexB, Bool.or_eq_true, Bool.and_eq_true, decide_eq_true_eq] at h
  unfold hexv
  split <;> omega
theorem thing_any (s : ByteArray) (hs : s.size ≤ 1048600) (h1 : 1 ≤ s.size) (w : World) (hE : TabE w) :
    Calls Tryd.prog 46 #[.string s] w fun e w' => e = .returned (.tuple #[.string (thingP s).1, .int .i64 ((thingP s).2 : Int)]) ∧ Below w.heap.size w w' := by
  have x0 := fun W => hix_at s 0 (by omega) W
  by_cases hb : (s.get! 0).toNat = 92
  case neg =>
    have e : thingP s = if (s.get! 0).toNat < 32 ∨ 126 < (s.get! 0).toNat then (⟨#[]⟩, 0) else (s.extract 0 1, 1) := by unfold thingP; rw [if_pos hb]
    rw [e]
    by_cases c1 : (s.get! 0).toNat < 32
    · rw [if_pos (.inl c1)]; exact thing_low s hs h1 _ x0 hb c1 w
    · by_cases c2 : 126 < (s.get! 0).toNat
      · rw [if_pos (.inr c2)]; exact thing_high s hs h1 _ x0 hb c2 w
      · rw [if_neg (by omega)]; exact thing_plain s hs h1 _ x0 hb (by omega) (by omega) w
  · rw [hb] at x0
    unfold thingP
    rw [if_neg (by simpa using hb)]
    by_cases h2 : s.size < 2
    · rw [if_pos h2]; exact thing_short s hs (by omega) x0 w
    · rw [if_neg h2]
      have x1 := fun W => hix_at s 1 (by omega) W
      have htl := trim_len s (by omega)
      have hT := trim_calls s
      generalize (⟨(Lib.trimLeftS (s.extract 2 s.size).data.toList hexSet.data.toList).toArray⟩ : ByteArray) = tl at htl hT
      by_cases c1 : (s.get! 1).toNat = 34
      · rw [if_pos (.inl c1)]; rw [c1] at x1; exact thing_34 s hs (by omega) x0 x1 tl _ htl hT w
      · by_cases c2 : (s.get! 1).toNat = 92
        · rw [if_pos (.inr c2)]; rw [c2] at x1; exact thing_92 s hs (by omega) x0 x1 tl _ htl hT w
        · rw [if_neg (by omega)]
          have six := six_hex s
          by_cases c3 : (s.get! 1).toNat = 120
          · rw [if_pos c3]
            rw [c3] at x1
            by_cases hh : sixteens s < 2
            · rw [if_pos (.inl hh)]; exact thing_x_few s hs (by omega) x0 x1 tl _ htl hT hh w
            · have x2 := fun W => hix_at s 2 (by omega) W
              by_cases hd : (s.get! 2).toNat < 56
              · rw [if_pos (.inr hd)]; exact thing_x_low s hs (by omega) x0 x1 tl _ htl hT (by omega) _ x2 hd w
              · rw [if_neg (by omega)]
                have e4 : (s.extract 2 4).size = 2 := by rw [ByteArray.size_extract]; omega
                have hx4 : ∀ c ∈ (s.extract 2 4).data.toList, isHexB c = true := by
                  intro c hc
                  refine six c ?_
                  rw [ByteArray.data_extract, Array.toList_extract, List.extract_eq_take_drop] at hc ⊢
                  exact List.mem_of_mem_take (i := 2) (by rw [List.take_take, show min 2 (2 + sixteens s - 2) = 4 - 2 by omega]; exact hc)
                obtain ⟨n, hn⟩ : ∃ n, hexM 255 0 (s.extract 2 4).data.toList = some n := by
                  have hl : (s.extract 2 4).data.toList.length = 2 := by rw [Array.length_toList]; exact e4
                  match hm : (s.extract 2 4).data.toList, hl with
                  | [x, y], _ =>
                    rw [hm] at hx4
                    have a := hexv_lt x (hx4 x (by simp))
                    have b := hexv_lt y (hx4 y (by simp))
                    refine ⟨(0 * 16 + hexv x) * 16 + hexv y, ?_⟩
                    rw [hexM, if_neg (by omega), hexM, if_neg (by omega), hexM]
                have hnl := hexM_le 255 _ 0 n (by omega) hn
                rw [hn]
                refine thing_x_ok s hs (by omega) x0 x1 tl _ htl hT (by omega) _ x2 (by omega) n (by omega) (fun W hE => ?_) w hE
                have := ParseUint_hex 8 255 (.inr ⟨rfl, rfl⟩) (s.extract 2 4) (by omega) hx4 W hE
                rw [if_neg (by omega), hn] at this
                exact this
          · rw [if_neg c3]
            by_cases c4 : (s.get! 1).toNat = 117
            case neg =>
              rw [if_neg c4]
              exact thing_other s hs (by omega) x0 _ x1 c1 c2 c3 c4 tl _ htl hT w
            · rw [if_pos c4]
              rw [c4] at x1
              have hP := fun W hE => ParseUint_hex 32 4294967295 (.inl ⟨rfl, rfl⟩) (s.extract 2 (2 + sixteens s)) (by rw [ByteArray.size_extract]; omega) six W hE
              unfold thingU
              by_cases hm : ∃ n, (if (s.extract 2 (2 + sixteens s)).size = 0 then none else hexM 4294967295 0 (s.extract 2 (2 + sixteens s)).data.toList) = some n
              case neg =>
                have hm' : (if (s.extract 2 (2 + sixteens s)).size = 0 then none else hexM 4294967295 0 (s.extract 2 (2 + sixteens s)).data.toList) = none := by
                  cases h : (if (s.extract 2 (2 + sixteens s)).size = 0 then none else hexM 4294967295 0 (s.extract 2 (2 + sixteens s)).data.toList) with
                  | none => rfl
                  | some n => exact absurd ⟨n, h⟩ hm
                rw [hm'] at hP ⊢
                exact thing_u_none s hs (by omega) x0 x1 tl _ htl hT (fun W hE => (hP W hE)) w hE
              · obtain ⟨n, hm⟩ := hm
                rw [hm] at hP ⊢
                have hn : n ≤ 4294967295 := by
                  by_cases h0 : (s.extract 2 (2 + sixteens s)).size = 0
                  · rw [if_pos h0] at hm; cases hm
                  · rw [if_neg h0] at hm; exact hexM_le _ _ 0 n (by omega) hm
                have h0 : 1 ≤ sixteens s := by
                  rcases Nat.eq_zero_or_pos (sixteens s) with h | h
                  · rw [if_pos (by rw [ByteArray.size_extract]; omega)] at hm; cases hm
                  · exact h
                have x2 := fun W => hix_at s 2 (by omega) W
                simp only
                by_cases b1 : 1114111 < n
                · rw [if_pos (.inl b1)]; exact thing_u_big s hs (by omega) x0 x1 tl _ htl hT n hn hP b1 w hE
                · by_cases b2 : Lib.validRune (n : Int) = false
                  · rw [if_pos (.inr (.inl b2))]; exact thing_u_surr s hs (by omega) x0 x1 tl _ htl hT n hn hP (by omega) b2 w hE
                  · have b2' : Lib.validRune (n : Int) = true := by simpa using b2
                    by_cases b3 : 32 ≤ n ∧ n ≤ 126
                    · rw [if_pos (.inr (.inr (.inl b3)))]; exact thing_u_ascii s hs (by omega) x0 x1 tl _ htl hT n hn hP (by omega) b2' b3.1 b3.2 w hE
                    · by_cases b4 : (s.get! 2).toNat = 48 ∧ 1 < sixteens s
                      · rw [if_pos (.inr (.inr (.inr (.inl b4))))]; exact thing_u_zero s hs (by omega) x0 x1 tl _ htl hT n hn hP (by omega) b2' (by omega) _ x2 b4.1 b4.2 w hE
                      · by_cases b5 : Lib.hasPrefix (s.extract (2 + sixteens s) s.size).data.toList [59] = false
                        · rw [if_pos (.inr (.inr (.inr (.inr b5))))]; exact thing_u_end s hs (by omega) x0 x1 tl _ htl hT n hn hP (by omega) b2' (by omega) _ x2 (by omega) _ rfl b5 w hE
                        · rw [if_neg (fun h => h.elim b1 (fun h => h.elim b2 (fun h => h.elim b3 (fun h => h.elim b4 b5))))]
                          have key := (thing_u_ok s hs (by omega) x0 x1 tl _ htl hT n hn hP (by omega) b2' (by omega) _ x2 (by omega) _ rfl (Eq.mp (Bool.not_eq_false _) b5) w hE)
                          generalize Utf8.encode (n : Int) = en at key ⊢
                          refine key.mono ?_
                          rintro e w' ⟨rfl, hb⟩
                          refine ⟨?_, hb⟩
                          rw [Int.natCast_add]
                          rfl
end Go.Proofs.YtglaagoblcpggaaDoor.R
