/- A quoted text is read back as the text it was made of, and a text that is read is what is quoted of what was read. -/
import Derived.Test.YtglaagoblcpggaaDoorHZ
import Derived.Test.YtglaagoblcpggaaDoorHV
import Derived.Laws.Cover4
import Derived.Test.YtglaagoblcpggaaDoorK
import Derived.Test.YtglaagoblcpggaaDoorF24
import Derived.Test.YtglaagoblcpggaaDoorF27
import Derived.Test.YtglaagoblcpggaaDoorHY
import Derived.Test.YtglaagoblcpggaaDoorTabs
import Derived.Test.YtglaagoblcpggaaDoorPa2
import Derived.Test.YtglaagoblcpggaaDoorF10
import Derived.Test.YtglaagoblcpggaaDoorF5
import Derived.Lib.MapLaws
import Derived.Test.YtglaagoblcpggaaDoorHT
import Derived.Test.YtglaagoblcpggaaDoorHQ
import Derived.Test.YtglaagoblcpggaaDoorF6
import Derived.Test.YtglaagoblcpggaaDoorLaidN
import Derived.Test.YtglaagoblcpggaaDoorCards
import Derived.Test.YtglaagoblcpggaaDoorTie
import Derived.WalkKit
import Derived.ProofKit
import Derived.OpenShut
import Derived.ShutString
import Derived.ChangeOld
import Derived.Below
import Derived.SizedLaws
import Derived.SevenTiedAt
section
set_option linter.unusedVariables false
set_option linter.unusedSimpArgs false
namespace Go.Proofs.YtglaagoblcpggaaDoor.R
open Go.RowKit Go.Proofs.YtglaagoblcpggaaDoorW.PrintWords


/-- WHAT runes.thing COMPUTES, of a text that is not empty: what its beginning stands for, and how many bytes that takes (0: nothing). -/
def thingU (s : ByteArray) (h : Nat) : ByteArray × Nat :=
  match (if (s.extract 2 (2 + h)).size = 0 then none else hexM 4294967295 0 (s.extract 2 (2 + h)).data.toList) with
  | none => (⟨#[]⟩, 0)
  | some n => if 1114111 < n ∨ Lib.validRune (n : Int) = false ∨ (32 ≤ n ∧ n ≤ 126) ∨ ((s.get! 2).toNat = 48 ∧ 1 < h) ∨ Lib.hasPrefix (s.extract (2 + h) s.size).data.toList [59] = false then (⟨#[]⟩, 0) else (Utf8.encode (n : Int), h + 3)
def thingP (s : ByteArray) : ByteArray × Nat :=
  if (s.get! 0).toNat ≠ 92 then (if (s.get! 0).toNat < 32 ∨ 126 < (s.get! 0).toNat then (⟨#[]⟩, 0) else (s.extract 0 1, 1))
  else if s.size < 2 then (⟨#[]⟩, 0)
  else if (s.get! 1).toNat = 34 ∨ (s.get! 1).toNat = 92 then (s.extract 1 2, 2)
  else if (s.get! 1).toNat = 120 then (if sixteens s < 2 ∨ (s.get! 2).toNat < 56 then (⟨#[]⟩, 0) else (⟨#[UInt8.ofNat ((hexM 255 0 (s.extract 2 4).data.toList).getD 0)]⟩, 4))
  else if (s.get! 1).toNat = 117 then thingU s (sixteens s)
  else (⟨#[]⟩, 0)
theorem hexM_le (M : Nat) : ∀ (l : List UInt8) (acc n : Nat), acc ≤ M → hexM M acc l = some n → n ≤ M
  | [], acc, n, h, e => by
    have := Option.some.inj e
    omega
  | c :: l, acc, n, h, e => by
    unfold hexM at e
    by_cases g : M < acc * 16 + hexv c
    · rw [if_pos g] at e; cases e
    · rw [if_neg g] at e
      exact hexM_le M l _ n (by omega) e
theorem hexv_lt (c : UInt8) (h : isHexB c = true) : hexv c < 16 := by
  simp only [isHexB, Bool.or_eq_true, Bool.and_eq_true, decide_eq_true_eq] at h
  unfold hexv
  split <;> omega
theorem thing_any (s : ByteArray) (hs : s.size ≤ 1048600) (h1 : 1 ≤ s.size) (w : World) (hE : TabE w) :
    Calls Tryd.prog 46 #[.string s] w fun e w' => e = .returned (.tuple #[.string (thingP s).1, .int .i64 ((thingP s).2 : Int)]) ∧ Below w.heap.size w w' := by
  have x0 := fun W => hix_at s 0 (by omega) W
  by_cases hb : (s.get! 0).toNat = 92
  case neg =>
    have e : thingP s = if (s.get! 0).toNat < 32 ∨ 126 < (s.get! 0).toNat then (⟨#[]⟩, 0) else (s.extract 0 1, 1) := by unfold thingP; rw [if_pos hb]
    rw [e]
    by_cases c1 : (s.get! 0).toNat < 32
    · rw [if_pos (.inl c1)]; exact thing_low s hs h1 _ x0 hb c1 w
    · by_cases c2 : 126 < (s.get! 0).toNat
      · rw [if_pos (.inr c2)]; exact thing_high s hs h1 _ x0 hb c2 w
      · rw [if_neg (by omega)]; exact thing_plain s hs h1 _ x0 hb (by omega) (by omega) w
  · rw [hb] at x0
    unfold thingP
    rw [if_neg (by simpa using hb)]
    by_cases h2 : s.size < 2
    · rw [if_pos h2]; exact thing_short s hs (by omega) x0 w
    · rw [if_neg h2]
      have x1 := fun W => hix_at s 1 (by omega) W
      have htl := trim_len s (by omega)
      have hT := trim_calls s
      generalize (⟨(Lib.trimLeftS (s.extract 2 s.size).data.toList hexSet.data.toList).toArray⟩ : ByteArray) = tl at htl hT
      by_cases c1 : (s.get! 1).toNat = 34
      · rw [if_pos (.inl c1)]; rw [c1] at x1; exact thing_34 s hs (by omega) x0 x1 tl _ htl hT w
      · by_cases c2 : (s.get! 1).toNat = 92
        · rw [if_pos (.inr c2)]; rw [c2] at x1; exact thing_92 s hs (by omega) x0 x1 tl _ htl hT w
        · rw [if_neg (by omega)]
          have six := six_hex s
          by_cases c3 : (s.get! 1).toNat = 120
          · rw [if_pos c3]
            rw [c3] at x1
            by_cases hh : sixteens s < 2
            · rw [if_pos (.inl hh)]; exact thing_x_few s hs (by omega) x0 x1 tl _ htl hT hh w
            · have x2 := fun W => hix_at s 2 (by omega) W
              by_cases hd : (s.get! 2).toNat < 56
              · rw [if_pos (.inr hd)]; exact thing_x_low s hs (by omega) x0 x1 tl _ htl hT (by omega) _ x2 hd w
              · rw [if_neg (by omega)]
                have e4 : (s.extract 2 4).size = 2 := by rw [ByteArray.size_extract]; omega
                have hx4 : ∀ c ∈ (s.extract 2 4).data.toList, isHexB c = true := by
                  intro c hc
                  refine six c ?_
                  rw [ByteArray.data_extract, Array.toList_extract, List.extract_eq_take_drop] at hc ⊢
                  exact List.mem_of_mem_take (i := 2) (by rw [List.take_take, show min 2 (2 + sixteens s - 2) = 4 - 2 by omega]; exact hc)
                obtain ⟨n, hn⟩ : ∃ n, hexM 255 0 (s.extract 2 4).data.toList = some n := by
                  have hl : (s.extract 2 4).data.toList.length = 2 := by rw [Array.length_toList]; exact e4
                  match hm : (s.extract 2 4).data.toList, hl with
                  | [x, y], _ =>
                    rw [hm] at hx4
                    have a := hexv_lt x (hx4 x (by simp))
                    have b := hexv_lt y (hx4 y (by simp))
                    refine ⟨(0 * 16 + hexv x) * 16 + hexv y, ?_⟩
                    rw [hexM, if_neg (by omega), hexM, if_neg (by omega), hexM]
                have hnl := hexM_le 255 _ 0 n (by omega) hn
                rw [hn]
                refine thing_x_ok s hs (by omega) x0 x1 tl _ htl hT (by omega) _ x2 (by omega) n (by omega) (fun W hE => ?_) w hE
                have := ParseUint_hex 8 255 (.inr ⟨rfl, rfl⟩) (s.extract 2 4) (by omega) hx4 W hE
                rw [if_neg (by omega), hn] at this
                exact this
          · rw [if_neg c3]
            by_cases c4 : (s.get! 1).toNat = 117
            case neg =>
              rw [if_neg c4]
              exact thing_other s hs (by omega) x0 _ x1 c1 c2 c3 c4 tl _ htl hT w
            · rw [if_pos c4]
              rw [c4] at x1
              have hP := fun W hE => ParseUint_hex 32 4294967295 (.inl ⟨rfl, rfl⟩) (s.extract 2 (2 + sixteens s)) (by rw [ByteArray.size_extract]; omega) six W hE
              unfold thingU
              by_cases hm : ∃ n, (if (s.extract 2 (2 + sixteens s)).size = 0 then none else hexM 4294967295 0 (s.extract 2 (2 + sixteens s)).data.toList) = some n
              case neg =>
                have hm' : (if (s.extract 2 (2 + sixteens s)).size = 0 then none else hexM 4294967295 0 (s.extract 2 (2 + sixteens s)).data.toList) = none := by
                  cases h : (if (s.extract 2 (2 + sixteens s)).size = 0 then none else hexM 4294967295 0 (s.extract 2 (2 + sixteens s)).data.toList) with
                  | none => rfl
                  | some n => exact absurd ⟨n, h⟩ hm
                rw [hm'] at hP ⊢
                exact thing_u_none s hs (by omega) x0 x1 tl _ htl hT (fun W hE => (hP W hE)) w hE
              · obtain ⟨n, hm⟩ := hm
                rw [hm] at hP ⊢
                have hn : n ≤ 4294967295 := by
                  by_cases h0 : (s.extract 2 (2 + sixteens s)).size = 0
                  · rw [if_pos h0] at hm; cases hm
                  · rw [if_neg h0] at hm; exact hexM_le _ _ 0 n (by omega) hm
                have h0 : 1 ≤ sixteens s := by
                  rcases Nat.eq_zero_or_pos (sixteens s) with h | h
                  · rw [if_pos (by rw [ByteArray.size_extract]; omega)] at hm; cases hm
                  · exact h
                have x2 := fun W => hix_at s 2 (by omega) W
                simp only
                by_cases b1 : 1114111 < n
                · rw [if_pos (.inl b1)]; exact thing_u_big s hs (by omega) x0 x1 tl _ htl hT n hn hP b1 w hE
                · by_cases b2 : Lib.validRune (n : Int) = false
                  · rw [if_pos (.inr (.inl b2))]; exact thing_u_surr s hs (by omega) x0 x1 tl _ htl hT n hn hP (by omega) b2 w hE
                  · have b2' : Lib.validRune (n : Int) = true := by simpa using b2
                    by_cases b3 : 32 ≤ n ∧ n ≤ 126
                    · rw [if_pos (.inr (.inr (.inl b3)))]; exact thing_u_ascii s hs (by omega) x0 x1 tl _ htl hT n hn hP (by omega) b2' b3.1 b3.2 w hE
                    · by_cases b4 : (s.get! 2).toNat = 48 ∧ 1 < sixteens s
                      · rw [if_pos (.inr (.inr (.inr (.inl b4))))]; exact thing_u_zero s hs (by omega) x0 x1 tl _ htl hT n hn hP (by omega) b2' (by omega) _ x2 b4.1 b4.2 w hE
                      · by_cases b5 : Lib.hasPrefix (s.extract (2 + sixteens s) s.size).data.toList [59] = false
                        · rw [if_pos (.inr (.inr (.inr (.inr b5))))]; exact thing_u_end s hs (by omega) x0 x1 tl _ htl hT n hn hP (by omega) b2' (by omega) _ x2 (by omega) _ rfl b5 w hE
                        · rw [if_neg (fun h => h.elim b1 (fun h => h.elim b2 (fun h => h.elim b3 (fun h => h.elim b4 b5))))]
                          have key := (thing_u_ok s hs (by omega) x0 x1 tl _ htl hT n hn hP (by omega) b2' (by omega) _ x2 (by omega) _ rfl (Eq.mp (Bool.not_eq_false _) b5) w hE)
                          generalize Utf8.encode (n : Int) = en at key ⊢
                          refine key.mono ?_
                          rintro e w' ⟨rfl, hb⟩
                          refine ⟨?_, hb⟩
                          rw [Int.natCast_add]
                          rfl
end Go.Proofs.YtglaagoblcpggaaDoor.R
end

section
set_option linter.unusedVariables false
set_option linter.unusedSimpArgs false
namespace Go.Proofs.YtglaagoblcpggaaDoor.R
open Go.RowKit Go.Proofs.YtglaagoblcpggaaDoorW.PrintWords

theorem extract_le (s : ByteArray) (a b : Nat) : (s.extract a b).size ≤ b - a := by rw [ByteArray.size_extract]; omega
theorem sixteens_le (s : ByteArray) : sixteens s ≤ s.size := by
  unfold sixteens
  have h1 : ((s.data.toList.drop 2).takeWhile isHexB).length ≤ (s.data.toList.drop 2).length := (List.takeWhile_prefix isHexB).length_le
  have h2 : s.data.toList.length = s.size := Array.length_toList
  rw [List.length_drop] at h1
  omega
theorem thingP_size (s : ByteArray) : (thingP s).1.size ≤ 4 ∧ (thingP s).2 ≤ s.size + 4 := by
  have h0 : (⟨#[]⟩ : ByteArray).size ≤ 4 ∧ 0 ≤ s.size + 4 := ⟨Nat.zero_le _, Nat.zero_le _⟩
  have h6 := sixteens_le s
  unfold thingP thingU
  have henc := encode_size_le
  revert henc
  generalize Utf8.encode = enc
  intro henc
  repeat' split
  all_goals first
    | exact h0
    | exact ⟨by have := extract_le s 0 1; simp only; omega, by simp only; omega⟩
    | exact ⟨by have := extract_le s 1 2; simp only; omega, by simp only; omega⟩
    | exact ⟨(show 1 ≤ 4 by omega), by simp only; omega⟩
    | exact ⟨henc _, by simp only; omega⟩

def plainLoop : Nat → ByteArray → Nat → List UInt8 → Bool × Nat × List UInt8
  | 0, _, i, acc => (true, i, acc)
  | f + 1, s, i, acc => if i < s.size ∧ (s.get! i).toNat ≠ 34 then
      (if (thingP (s.extract i s.size)).2 = 0 then (true, i, []) else plainLoop f s (i + (thingP (s.extract i s.size)).2) (acc ++ (thingP (s.extract i s.size)).1.data.toList))
    else (false, i, acc)
/-- What runes.Plain answers of what its loop left. -/
def plainEnd (s : ByteArray) (r : Bool × Nat × List UInt8) : ByteArray × Int × Int :=
  if r.1 = true then (⟨#[]⟩, r.2.1, 10)
  else if s.size ≤ r.2.1 then (⟨#[]⟩, r.2.1, 10)
  else if r.2.1 + 1 < s.size then (⟨#[]⟩, ((r.2.1 + 1 : Nat) : Int), 10)
  else if 65536 < r.2.2.length then (⟨#[]⟩, 0, 3)
  else if runes_quote.f ⟨r.2.2.toArray⟩ = some s then (⟨r.2.2.toArray⟩, 0, 0) else (⟨#[]⟩, 0, 10)
def runes_Plain.f (a0 : ByteArray) : Option (ByteArray × Int × Int) :=
  if 1048576 < a0.size then some (⟨#[]⟩, 0, 3)
  else if Lib.hasPrefix a0.data.toList [34] = false then some (⟨#[]⟩, 0, 10)
  else some (plainEnd a0 (plainLoop (a0.size + 1) a0 1 []))

set_option maxHeartbeats 8000000 in
set_option maxRecDepth 100000 in
theorem plain_big (s : ByteArray) (h : 1048576 < s.size) (w : World) : Calls Tryd.prog 29 #[.string s] w fun e w' => e = .returned (.tuple #[.string ⟨#[]⟩, .int .i64 0, .int .i64 3]) ∧ Below w.heap.size w w' := by
  go_enter Tryd.func29, Tryd.ntmps29
  go_wp2
  go_ret3
  exact ⟨rfl, Below.refl _ _⟩
set_option maxHeartbeats 8000000 in
set_option maxRecDepth 100000 in
theorem plain_bare (s : ByteArray) (h : s.size ≤ 1048576) (hp : Lib.hasPrefix s.data.toList [34] = false) (w : World) : Calls Tryd.prog 29 #[.string s] w fun e w' => e = .returned (.tuple #[.string ⟨#[]⟩, .int .i64 0, .int .i64 10]) ∧ Below w.heap.size w w' := by
  have HP := Aside0.mk hp
  clear hp
  go_enter Tryd.func29, Tryd.ntmps29
  go_wp2_with (go_at_call 45; refine (Tryd.strings_HasPrefix _ _ _).mono ?_; rw [show (⟨#[34]⟩ : ByteArray).data.toList = [34] from rfl, HP.out]; rintro e w6 ⟨rfl, rfl⟩)
  go_ret3
  exact ⟨rfl, Below.refl _ _⟩

/-- What holds ahead of each round. -/
structure PlI (s : ByteArray) (b : Nat) (w : World) (i f : Nat) (acc : List UInt8) (wr : World) : Prop where
  bld : Lib.IsBuilderF 59 5 w.heap.size b (Lib.byteCells acc) wr
  bel : Below w.heap.size w wr
  len : acc.length ≤ 4 * i
  top : i ≤ 2 * s.size + 8
  one : 1 ≤ i
  fuel : s.size - i < f
  eq : plainLoop f s i acc = plainLoop (s.size + 1) s 1 []

set_option maxHeartbeats 16000000 in
set_option maxRecDepth 100000 in
theorem plain_main (s : ByteArray) (h : s.size ≤ 1048576) (hp : Lib.hasPrefix s.data.toList [34] = true) (w : World) (hTU : TabU w) (hTN : TabN w) (hTE : TabE w) :
    Calls Tryd.prog 29 #[.string s] w fun e w' => e = .returned (.tuple #[.string (plainEnd s (plainLoop (s.size + 1) s 1 [])).1, .int .i64 (plainEnd s (plainLoop (s.size + 1) s 1 [])).2.1, .int .i64 (plainEnd s (plainLoop (s.size + 1) s 1 [])).2.2]) ∧ Below w.heap.size w w' := by
  have HP := Aside0.mk hp
  have HU := Aside0.mk hTU
  have HN := Aside0.mk hTN
  have HE := Aside0.mk hTE
  clear hp hTU hTN hTE
  go_enter Tryd.func29, Tryd.ntmps29
  go_wp2_with (first | (go_at_call 45; refine (Tryd.strings_HasPrefix _ _ _).mono ?_; rw [show (⟨#[34]⟩ : ByteArray).data.toList = [34] from rfl, HP.out]; rintro e w6 ⟨rfl, hw6⟩; have hw7 := hw6.symm; clear hw6; subst hw7) | ((with_reducible refine gate_dst (N := 5) rfl ?_); refine box_event ?hg (N := 5) ?hd (cs := #[.pointer none, .slice none 0 0]) (t := 59) ?hr ?_; (case hd => rfl); (case hg => rfl); (case hr => first | (go_simp; done) | (go_simp; rfl)); intro b hb w6 hbox6 hb6; have HGB := Aside0.mk hb; have HBX := Aside0.mk hbox6; have HB6 := Aside0.mk hb6; clear hb hbox6 hb6))
  go_loopw [6] (fun v6 wr => ∃ (i f : Nat) (acc : List UInt8), v6 = .int .i64 i ∧ Aside0 (PlI s b w i f acc wr)) (fun v6 wr => s.size - (intOf v6).toNat)
  case atStart => exact ⟨1, s.size + 1, [], rfl, ⟨⟨.inl ⟨by rw [HGB.out]; exact Nat.le_refl _, _, HBX.out, World.ownsRowF_nil _ _ _ _, by simp [Value.ownBlock]⟩, HB6.out, by simp, by omega, by omega, by omega, rfl⟩⟩⟩
  case round =>
    obtain ⟨i, f, acc, rfl, HI⟩ := hrel
    have hi1 := HI.out.one
    have hi2 := HI.out.top
    have hk : ∀ W, Below w.heap.size wr W → Below w.heap.size w W := fun W hb => HI.out.bel.trans hb
    have HK := Aside0.mk hk
    clear hk
    by_cases hi : i < s.size
    · have hix : ∀ W, (Instr.index 9 (.string s) (.int .i64 i)).run Tryd.prog W = _ := fun W => hix_at s i hi W
      have hc8 := get_lt s i
      by_cases hq : (s.get! i).toNat = 34
      · -- a quote: the end of the text that is read
        have hr : plainLoop (s.size + 1) s 1 [] = (false, i, acc) := by
          have h1 := HI.out.eq
          have h2 := HI.out.fuel
          obtain ⟨f, rfl⟩ : ∃ g, f = g + 1 := ⟨f - 1, by omega⟩
          rw [← h1, plainLoop, if_neg (by omega)]
        have HR := Aside0.mk hr
        rw [hq] at hix
        clear hr hq hc8
        by_cases hm : i + 1 < s.size
        · have he : plainEnd s (false, i, acc) = (⟨#[]⟩, ((i + 1 : Nat) : Int), 10) := by unfold plainEnd; rw [if_neg (by simp), if_neg (by simp only; omega), if_pos (by simpa using hm)]
          have HEQ := Aside0.mk he
          clear he
          go_wp2
          go_ret3
          exact ⟨by rw [HR.out, HEQ.out]; rfl, HI.out.bel⟩
        · have hll := Aside0.mk (show acc.length ≤ 100000000 by have := HI.out.len; omega)
          by_cases hl : 65536 < acc.length
          · have he : plainEnd s (false, i, acc) = (⟨#[]⟩, 0, 3) := by unfold plainEnd; rw [if_neg (by simp), if_neg (by simp only; omega), if_neg (by simpa using hm), if_pos (by simpa using hl)]
            have HEQ := Aside0.mk he
            clear he
            go_wp2_with (go_at_call 48; refine (Tryd.Builder_Len_f w.heap.size b _ _ HI.out.bld).mono ?_; rw [Lib.byteCells_length]; rintro e w7 ⟨rfl, rfl⟩)
            go_ret3
            exact ⟨by rw [HR.out, HEQ.out]; rfl, HI.out.bel⟩
          · have hqf : ∃ q, runes_quote.f ⟨acc.toArray⟩ = some q := by unfold runes_quote.f; rw [if_pos (by simp [ByteArray.size]; omega)]; exact ⟨_, rfl⟩
            obtain ⟨q, hqf⟩ := hqf
            have HQF := Aside0.mk hqf
            clear hqf
            by_cases hqs : q = s
            · have he : plainEnd s (false, i, acc) = (⟨acc.toArray⟩, 0, 0) := by unfold plainEnd; rw [if_neg (by simp), if_neg (by simp only; omega), if_neg (by simpa using hm), if_neg (by simpa using hl), if_pos (by rw [HQF.out, hqs])]
              have HEQ := Aside0.mk he
              clear he
              subst hqs
              go_wp2_with (first | (go_at_call 48; refine (Tryd.Builder_Len_f w.heap.size b _ _ HI.out.bld).mono ?_; rw [Lib.byteCells_length]; rintro e w7 ⟨rfl, rfl⟩) | (go_at_call 49; first | (refine (Tryd.Builder_String_any_k w.heap.size b acc _ HI.out.bld HI.out.bel.size).mono ?_; rintro e w8 ⟨rfl, h8, hb8, hk8⟩; have H8 := Aside0.mk h8; have HB8 := Aside0.mk (HI.out.bel.trans hb8); clear h8 hb8 hk8) | (refine (Tryd.Builder_String_any_k w.heap.size b acc _ (builder_below H8.out HB9.out) (HB9a.out.size)).mono ?_; rintro e w10 ⟨rfl, h10, hb10, hk10⟩; have HB10 := Aside0.mk (HB9a.out.trans hb10); clear h10 hb10 hk10)) | (go_at_call 43; refine (runes_quote.calls _ _ _ (HU.out.below HB8.out) (HN.out.below HB8.out) HQF.out).mono ?_; rintro e w9 ⟨rfl, hb9⟩; have HB9 := Aside0.mk hb9; have HB9a := Aside0.mk (HB8.out.trans (hb9.mono HB8.out.size)); clear hb9))
              go_ret3
              exact ⟨by rw [HR.out, HEQ.out]; rfl, HB10.out⟩
            · have he : plainEnd s (false, i, acc) = (⟨#[]⟩, 0, 10) := by unfold plainEnd; rw [if_neg (by simp), if_neg (by simp only; omega), if_neg (by simpa using hm), if_neg (by simpa using hl), if_neg (by rw [HQF.out]; simpa using hqs)]
              have HEQ := Aside0.mk he
              clear he
              have hne : (q.toList == s.toList) = false := beq_eq_false_iff_ne.2 fun e => hqs (by rw [Lib.toList_data, Lib.toList_data] at e; exact ByteArray.ext (Array.toList_inj.1 e))
              have hne2 : q.toList ≠ s.toList := by simpa using hne
              go_wp2_with (first | (go_at_call 48; refine (Tryd.Builder_Len_f w.heap.size b _ _ HI.out.bld).mono ?_; rw [Lib.byteCells_length]; rintro e w7 ⟨rfl, rfl⟩) | (go_at_call 49; refine (Tryd.Builder_String_any_k w.heap.size b acc _ HI.out.bld HI.out.bel.size).mono ?_; rintro e w8 ⟨rfl, h8, hb8, hk8⟩; have H8 := Aside0.mk h8; have HB8 := Aside0.mk (HI.out.bel.trans hb8); clear h8 hb8 hk8) | (go_at_call 43; refine (runes_quote.calls _ _ _ (HU.out.below HB8.out) (HN.out.below HB8.out) HQF.out).mono ?_; rintro e w9 ⟨rfl, hb9⟩; have HB9a := Aside0.mk (HB8.out.trans (hb9.mono HB8.out.size)); clear hb9))
              go_ret3
              exact ⟨by rw [HR.out, HEQ.out]; rfl, HB9a.out⟩
      · have hsz : (s.extract i s.size).size = s.size - i := by rw [ByteArray.size_extract]; omega
        have hqb : (((s.get! i).toNat : Int) == 34) = false := beq_eq_false_iff_ne.2 (by omega)
        have ht := fun W hE => thing_any (s.extract i s.size) (by omega) (by omega) W hE
        have hts := thingP_size (s.extract i s.size)
        have hstep : plainLoop f s i acc = (if (thingP (s.extract i s.size)).2 = 0 then (true, i, []) else plainLoop (f - 1) s (i + (thingP (s.extract i s.size)).2) (acc ++ (thingP (s.extract i s.size)).1.data.toList)) := by
          have h2 := HI.out.fuel
          obtain ⟨f, rfl⟩ : ∃ g, f = g + 1 := ⟨f - 1, by omega⟩
          rw [plainLoop, if_pos ⟨hi, hq⟩, Nat.add_sub_cancel]
        have HT := Aside0.mk ht
        have HTS := Aside0.mk hts
        have HSTEP := Aside0.mk (HI.out.eq.symm.trans hstep)
        clear ht hts hstep hq
        generalize (thingP (s.extract i s.size)).1 = txt at HT HTS HSTEP
        generalize (thingP (s.extract i s.size)).2 = n at HT HTS HSTEP
        by_cases hn : n = 0
        · subst hn
          have hr := Aside0.mk (show plainEnd s (plainLoop (s.size + 1) s 1 []) = (⟨#[]⟩, (i : Int), 10) by rw [HSTEP.out, if_pos rfl]; rfl)
          go_wp2_with (go_at_call 46; refine (HT.out _ (HE.out.below HI.out.bel)).mono ?_; rintro e w7 ⟨rfl, hb7⟩; have HB7 := Aside0.mk hb7; clear hb7)
          go_ret3
          exact ⟨by rw [hr.out]; rfl, HI.out.bel.trans (HB7.out.mono HI.out.bel.size)⟩
        · have hnb : ((n : Int) == 0) = false := beq_eq_false_iff_ne.2 (by omega)
          have hn1 : n ≤ s.size + 4 := by have := HTS.out; omega
          go_wp2_with (first | (go_at_call 46; refine (HT.out _ (HE.out.below HI.out.bel)).mono ?_; rintro e w7 ⟨rfl, hb7⟩; have HB7 := Aside0.mk hb7; have HB7a := Aside0.mk (HI.out.bel.trans (hb7.mono HI.out.bel.size)); clear hb7) | (go_at_call 47; refine (WriteString_k w.heap.size b _ txt _ (builder_below HI.out.bld HB7.out) (by rw [Lib.byteCells_length]; have := HI.out.len; have := HTS.out; omega) HB7a.out.size).mono ?_; rintro e w8 ⟨rfl, h8, hb8, hk8⟩; have H8 := Aside0.mk h8; have HB8 := Aside0.mk (HB7a.out.trans hb8); clear h8 hb8 hk8))
          go_roundw
          case rel =>
            refine ⟨i + n, f - 1, acc ++ txt.data.toList, by go_num, ⟨⟨.inr ?_, HB8.out, ?_, by omega, by omega, by have := HI.out.fuel; omega, ?_⟩⟩⟩
            · have e : Lib.byteCells (acc ++ txt.data.toList) = Lib.byteCells acc ++ Lib.strCells txt := by simp [Lib.byteCells, Lib.strCells]
              rw [e]
              exact H8.out
            · have h1 := HI.out.len
              have h2 := HTS.out.1
              have h3 : txt.data.toList.length = txt.size := Array.length_toList
              rw [List.length_append, h3]
              omega
            · have := HSTEP.out
              rw [if_neg hn] at this
              exact this.symm
          case measure => simp [intOf]; omega
    · have hr : plainLoop (s.size + 1) s 1 [] = (false, i, acc) := by
        have h1 := HI.out.eq
        have h2 := HI.out.fuel
        obtain ⟨f, rfl⟩ : ∃ g, f = g + 1 := ⟨f - 1, by omega⟩
        rw [← h1, plainLoop, if_neg (by omega)]
      have he : plainEnd s (false, i, acc) = (⟨#[]⟩, (i : Int), 10) := by unfold plainEnd; rw [if_neg (by simp), if_pos (by simp only; omega)]
      have HR := Aside0.mk hr
      have HEQ := Aside0.mk he
      clear hr he
      go_wp2
      go_ret3
      exact ⟨by rw [HR.out, HEQ.out]; rfl, HI.out.bel⟩

theorem runes_Plain.calls (a0 : ByteArray) (r1 : ByteArray) (r2 : Int) (r3 : Int) (w : World) (hTU : TabU w) (hTN : TabN w) (hTE : TabE w) (h : runes_Plain.f a0 = some (r1, r2, r3)) :
    Calls Tryd.prog 29 #[.string a0] w fun e w' => e = .returned (.tuple #[.string r1, .int .i64 r2, .int .i64 r3]) ∧ Below w.heap.size w w' := by
  unfold runes_Plain.f at h
  by_cases c1 : 1048576 < a0.size
  · rw [if_pos c1] at h
    injection h with h
    injection h with h1 h
    injection h with h2 h3
    subst h1 h2 h3
    exact plain_big a0 c1 w
  · rw [if_neg c1] at h
    by_cases c2 : Lib.hasPrefix a0.data.toList [34] = false
    · rw [if_pos c2] at h
      injection h with h
      injection h with h1 h
      injection h with h2 h3
      subst h1 h2 h3
      exact plain_bare a0 (by omega) c2 w
    · rw [if_neg c2] at h
      have e := Option.some.inj h
      have := plain_main a0 (by omega) (by simpa using c2) w hTU hTN hTE
      rw [e] at this
      exact this
end Go.Proofs.YtglaagoblcpggaaDoor.R
end

section
namespace Go.Proofs.YtglaagoblcpggaaDoor.R
open Go.RowKit Go.Proofs.YtglaagoblcpggaaDoorW.PrintWords Go.Proofs.YtglaagoblcpggaaDoorW.PrintLast Go.Proofs.YtglaagoblcpggaaDoorW.PrintMore
attribute [local go_sem] max2_int min2_int max_two min_two max_three min_three max_four min_four   -- for this text's walks alone
set_option linter.unusedVariables false
set_option linter.unusedSimpArgs false

/-! ### cognatelaw01_RunesPlain: function 8 -/
mutual
def cognatelaw01_RunesPlain.j0 : Nat → ByteArray → ByteArray → Bool → Bool → Option (Bool)
  | 0, _, _, _, _ => none
  | k + 1, x0, x1, x5, x25 => if x25 = true then (some x5) else ((runes_Quote.f x0).bind fun bt102 => ((runes_Plain.f bt102.1).bind fun bt104 => (if bt102.2 = 0 then (if bt104.2.2 = 0 then (if bt104.2.1 = 0 then (if bt104.1.toList = x0.toList then (cognatelaw01_RunesPlain.j1 k x1 x5 bt102.1 (decide ((bt102.1.size : Int) < (wrap64 ((x0.size : Int) + 2))))) else (cognatelaw01_RunesPlain.j1 k x1 x5 bt102.1 true)) else (cognatelaw01_RunesPlain.j1 k x1 x5 bt102.1 true)) else (cognatelaw01_RunesPlain.j1 k x1 x5 bt102.1 true)) else (cognatelaw01_RunesPlain.j1 k x1 x5 bt102.1 true))))
def cognatelaw01_RunesPlain.j1 : Nat → ByteArray → Bool → ByteArray → Bool → Option (Bool)
  | 0, _, _, _, _ => none
  | k + 1, x1, x5, x6, x60 => if x60 = true then (some false) else (cognatelaw01_RunesPlain.l0 k x1 x5 x6 0)
def cognatelaw01_RunesPlain.l0 : Nat → ByteArray → Bool → ByteArray → Int → Option (Bool)
  | 0, _, _, _, _ => none
  | k + 1, x1, x5, x6, x11 => if x11 < (x6.size : Int) then (if 0 ≤ x11 then (if (bt x6 x11) < 32 then (some false) else (if (bt x6 x11) > 126 then (some false) else (cognatelaw01_RunesPlain.l0 k x1 x5 x6 (wrap64 (x11 + 1))))) else (none)) else ((runes_Plain.f x1).bind fun bt107 => (if bt107.2.2 = 0 then ((runes_Quote.f bt107.1).bind fun bt110 => (if x5 = true then (if bt110.2 = 0 then (if bt110.1.toList = x1.toList then (some (bt107.2.1 == 0)) else (some false)) else (some false)) else (some false))) else (if x5 = true then (if bt107.1.toList = ([] : List UInt8) then (if bt107.2.1 ≥ 0 then (some (decide (bt107.2.1 ≤ (x1.size : Int)))) else (some false)) else (some false)) else (some false))))
end
def cognatelaw01_RunesPlain.f (k : Nat) (a0 : ByteArray) (a1 : ByteArray) : Option (Bool) := (cognatelaw01_alive.f k).bind fun t101 => (if (a0.size : Int) > 5000 then (cognatelaw01_RunesPlain.j0 k a0 a1 t101 true) else (cognatelaw01_RunesPlain.j0 k a0 a1 t101 (decide ((a1.size : Int) > 5000))))
theorem cognatelaw01_RunesPlain.mono_l : ∀ k, (∀ y0 y1 y2 y3, LeO (cognatelaw01_RunesPlain.j0 k y0 y1 y2 y3) (cognatelaw01_RunesPlain.j0 (k + 1) y0 y1 y2 y3)) ∧ (∀ y0 y1 y2 y3, LeO (cognatelaw01_RunesPlain.j1 k y0 y1 y2 y3) (cognatelaw01_RunesPlain.j1 (k + 1) y0 y1 y2 y3)) ∧ (∀ y0 y1 y2 y3, LeO (cognatelaw01_RunesPlain.l0 k y0 y1 y2 y3) (cognatelaw01_RunesPlain.l0 (k + 1) y0 y1 y2 y3))
  | 0 => ⟨fun _ _ _ _ r h => by simp [cognatelaw01_RunesPlain.j0] at h, fun _ _ _ _ r h => by simp [cognatelaw01_RunesPlain.j1] at h, fun _ _ _ _ r h => by simp [cognatelaw01_RunesPlain.l0] at h⟩
  | k + 1 => by
    obtain ⟨ih0, ih1, ih2⟩ := cognatelaw01_RunesPlain.mono_l k
    refine ⟨?_, ?_, ?_⟩
    · intro y0 y1 y2 y3
      unfold cognatelaw01_RunesPlain.j0
      repeat' first
      | (with_reducible exact ih0 _ _ _ _)
      | (with_reducible exact ih1 _ _ _ _)
      | (with_reducible exact ih2 _ _ _ _)
      | (with_reducible exact cognatelaw01_alive.mono _)
      | (with_reducible exact LeO.refl _)
      | (with_reducible exact LeO.none _)
      | (with_reducible refine LeO.ite ?_ ?_)
      | (with_reducible refine LeO.bind ?_ (fun _ => ?_))
      | exact ih0 _ _ _ _
      | exact ih1 _ _ _ _
      | exact ih2 _ _ _ _
      | exact cognatelaw01_alive.mono _
      | exact LeO.none _
      | refine LeO.ite ?_ ?_
      | refine LeO.bind ?_ (fun _ => ?_)
    · intro y0 y1 y2 y3
      unfold cognatelaw01_RunesPlain.j1
      repeat' first
      | (with_reducible exact ih0 _ _ _ _)
      | (with_reducible exact ih1 _ _ _ _)
      | (with_reducible exact ih2 _ _ _ _)
      | (with_reducible exact cognatelaw01_alive.mono _)
      | (with_reducible exact LeO.refl _)
      | (with_reducible exact LeO.none _)
      | (with_reducible refine LeO.ite ?_ ?_)
      | (with_reducible refine LeO.bind ?_ (fun _ => ?_))
      | exact ih0 _ _ _ _
      | exact ih1 _ _ _ _
      | exact ih2 _ _ _ _
      | exact cognatelaw01_alive.mono _
      | exact LeO.none _
      | refine LeO.ite ?_ ?_
      | refine LeO.bind ?_ (fun _ => ?_)
    · intro y0 y1 y2 y3
      unfold cognatelaw01_RunesPlain.l0
      repeat' first
      | (with_reducible exact ih0 _ _ _ _)
      | (with_reducible exact ih1 _ _ _ _)
      | (with_reducible exact ih2 _ _ _ _)
      | (with_reducible exact cognatelaw01_alive.mono _)
      | (with_reducible exact LeO.refl _)
      | (with_reducible exact LeO.none _)
      | (with_reducible refine LeO.ite ?_ ?_)
      | (with_reducible refine LeO.bind ?_ (fun _ => ?_))
      | exact ih0 _ _ _ _
      | exact ih1 _ _ _ _
      | exact ih2 _ _ _ _
      | exact cognatelaw01_alive.mono _
      | exact LeO.none _
      | refine LeO.ite ?_ ?_
      | refine LeO.bind ?_ (fun _ => ?_)
theorem cognatelaw01_RunesPlain.mono : ∀ a0 a1 k, LeO (cognatelaw01_RunesPlain.f k a0 a1) (cognatelaw01_RunesPlain.f (k + 1) a0 a1) := by
  intro a0 a1 k
  obtain ⟨ih0, ih1, ih2⟩ := cognatelaw01_RunesPlain.mono_l k
  unfold cognatelaw01_RunesPlain.f
  repeat' first
      | (with_reducible exact ih0 _ _ _ _)
      | (with_reducible exact ih1 _ _ _ _)
      | (with_reducible exact ih2 _ _ _ _)
      | (with_reducible exact cognatelaw01_alive.mono _)
      | (with_reducible exact LeO.refl _)
      | (with_reducible exact LeO.none _)
      | (with_reducible refine LeO.ite ?_ ?_)
      | (with_reducible refine LeO.bind ?_ (fun _ => ?_))
      | exact ih0 _ _ _ _
      | exact ih1 _ _ _ _
      | exact ih2 _ _ _ _
      | exact cognatelaw01_alive.mono _
      | exact LeO.none _
      | refine LeO.ite ?_ ?_
      | refine LeO.bind ?_ (fun _ => ?_)
set_option maxHeartbeats 8000000 in
set_option maxRecDepth 100000 in
theorem cognatelaw01_RunesPlain.calls (k : Nat) (a0 : ByteArray) (a1 : ByteArray) (r : Bool) (w : World) (hTU : TabU w) (hTN : TabN w) (hTE : TabE w) (h : cognatelaw01_RunesPlain.f k a0 a1 = some r) :
    Calls Tryd.prog 8 #[.string a0, .string a1] w fun e w' => e = .returned (.bool r) ∧ Below w.heap.size w w' := by
  have HB := Aside0.mk (Below.refl w.heap.size w)
  have H : ((cognatelaw01_alive.f k).bind fun t101 => (if (a0.size : Int) > 5000 then (cognatelaw01_RunesPlain.j0 k a0 a1 t101 true) else (cognatelaw01_RunesPlain.j0 k a0 a1 t101 (decide ((a1.size : Int) > 5000))))) = some r := h
  clear h
  have HTU := Aside0.mk hTU
  clear hTU
  have HTN := Aside0.mk hTN
  clear hTN
  have HTE := Aside0.mk hTE
  clear hTE
  replace H := Option.bind_eq_some_iff.mp H
  obtain ⟨t101, A30, H⟩ := H
  replace H : (if (a0.size : Int) > 5000 then (cognatelaw01_RunesPlain.j0 k a0 a1 t101 true) else (cognatelaw01_RunesPlain.j0 k a0 a1 t101 (decide ((a1.size : Int) > 5000)))) = some r := H
  have A3 := Aside0.mk A30
  clear A30
  have HC4 := Aside0.mk H
  clear H
  go_enter Tryd.func8, Tryd.ntmps8
  go_upto_region 2 with (first | ((with_reducible refine gate_callee (f := 24) rfl ?_); refine goesL_ (some 17) rfl rfl Tryd.func24 (by kernel_rfl) rfl #[] rfl (by (try simp only [List.map_toArray, List.map_cons, List.map_nil]); first | done | rfl | (simp only [List.length_drop, List.length_take]; rfl)) ?_; (with_reducible refine (cognatelaw01_alive.calls k  t101 _ ?side1 ?side2 A3.out).mono ?_); (case side1 => exact TabU.below HTU.out (by repeat (first | (with_reducible first | exact HB.out | apply below_alloc | apply pw_below_drewN | apply below_drew1) | exact HB.out))); (case side2 => exact TabN.below HTN.out (by repeat (first | (with_reducible first | exact HB.out | apply below_alloc | apply pw_below_drewN | apply below_drew1) | exact HB.out))); rintro e w5 ⟨rfl, hb⟩; refine ⟨_, rfl, ?_⟩; have n0_ := Aside0.mk (below_step (by repeat (first | (with_reducible first | exact HB.out | apply below_alloc | apply pw_below_drewN | apply below_drew1) | exact HB.out)) hb); clear HB; have HB := n0_; clear n0_; (try clear hb); (try clear hb2); (try clear hk); (try clear hi)))
  (try simp only [Act.put, List.setIfInBounds_toArray, List.set_cons_zero, List.set_cons_succ])
  go_cut [25] (fun v25 wc => ∃ (kq : Nat) (x25_3 : Bool), v25 = .bool x25_3 ∧ Aside0 (cognatelaw01_RunesPlain.j0 kq a0 a1 t101 x25_3 = some r) ∧ Aside0 (kq ≤ k) ∧ Aside0 (Below w.heap.size w wc))
  case first =>
    have H := HC4.out
    clear HC4
    by_cases c6 : (a0.size : Int) > 5000
    · rw [if_pos c6] at H
      have c6b0 : decide (5000 < (a0.size : Int)) = true := decide_eq_true c6
      have c6b1 : decide (5000 < a0.size) = true := decide_eq_true (by omega)
      clear c6
      (first | rw [c6b0] | (simp only [i64_w, i32_w]; rw [c6b0]) | skip)
      have H' := Aside0.mk H
      clear H
      go_wp2
      go_meet
      case rel => exact ⟨_, (true), (by first | rfl | (simp; done) | (simp [*]; done) | (simp [bne_nil_bytes]; done)), H', ⟨by first | omega | exact Nat.le_refl _⟩, ⟨by repeat (first | (with_reducible first | exact HB.out | apply below_alloc | apply pw_below_drewN | apply below_drew1) | exact HB.out)⟩⟩
    · rw [if_neg c6] at H
      have c6b0 : decide (5000 < (a0.size : Int)) = false := decide_eq_false c6
      have c6b1 : decide (5000 < a0.size) = false := decide_eq_false (by omega)
      clear c6
      (first | rw [c6b0] | (simp only [i64_w, i32_w]; rw [c6b0]) | skip)
      have H' := Aside0.mk H
      clear H
      go_wp2
      go_meet
      case rel => exact ⟨_, (decide ((a1.size : Int) > 5000)), (by first | rfl | (simp; done) | (simp [*]; done) | (simp [bne_nil_bytes]; done)), H', ⟨by first | omega | exact Nat.le_refl _⟩, ⟨by repeat (first | (with_reducible first | exact HB.out | apply below_alloc | apply pw_below_drewN | apply below_drew1) | exact HB.out)⟩⟩
  case rest =>
    clear HC4
    try clear c2
    try clear p2
    try clear c6
    try clear c6b0
    try clear c6b1
    obtain ⟨kq, x25_3, rfl, HA, HJ3, HB⟩ := hcut
    cases kq with
    | zero => exact absurd HA.out (by simp [cognatelaw01_RunesPlain.j0])
    | succ kj3 =>
      have H := HA.out
      clear HA
      simp only [cognatelaw01_RunesPlain.j0] at H
      by_cases c7 : x25_3 = true
      · subst c7
        have H1 : (some t101) = some r := by rw [if_pos rfl] at H; exact H
        clear H
        have H := H1
        clear H1
        obtain rfl := Option.some.inj H
        go_wp2
        go_ret
        exact ⟨by first | rfl | (simp [errW_none, errW_some] <;> rfl) | (simp [*, errW_none, errW_some] <;> rfl) | (simp [bne_nil_bytes]; done), by repeat (first | (with_reducible first | exact HB.out | apply below_alloc | apply pw_below_drewN | apply below_drew1) | exact HB.out)⟩
      · replace c7 := Bool.eq_false_iff.mpr c7
        subst c7
        have H1 : ((runes_Quote.f a0).bind fun bt102 => ((runes_Plain.f bt102.1).bind fun bt104 => (if bt102.2 = 0 then (if bt104.2.2 = 0 then (if bt104.2.1 = 0 then (if bt104.1.toList = a0.toList then (cognatelaw01_RunesPlain.j1 kj3 a1 t101 bt102.1 (decide ((bt102.1.size : Int) < (wrap64 ((a0.size : Int) + 2))))) else (cognatelaw01_RunesPlain.j1 kj3 a1 t101 bt102.1 true)) else (cognatelaw01_RunesPlain.j1 kj3 a1 t101 bt102.1 true)) else (cognatelaw01_RunesPlain.j1 kj3 a1 t101 bt102.1 true)) else (cognatelaw01_RunesPlain.j1 kj3 a1 t101 bt102.1 true)))) = some r := by rw [if_neg (show ¬ (false = true) by decide)] at H; exact H
        clear H
        have H := H1
        clear H1
        replace H := Option.bind_eq_some_iff.mp H
        obtain ⟨⟨t102, t103⟩, A80, H⟩ := H
        replace H : ((runes_Plain.f t102).bind fun bt104 => (if t103 = 0 then (if bt104.2.2 = 0 then (if bt104.2.1 = 0 then (if bt104.1.toList = a0.toList then (cognatelaw01_RunesPlain.j1 kj3 a1 t101 t102 (decide ((t102.size : Int) < (wrap64 ((a0.size : Int) + 2))))) else (cognatelaw01_RunesPlain.j1 kj3 a1 t101 t102 true)) else (cognatelaw01_RunesPlain.j1 kj3 a1 t101 t102 true)) else (cognatelaw01_RunesPlain.j1 kj3 a1 t101 t102 true)) else (cognatelaw01_RunesPlain.j1 kj3 a1 t101 t102 true))) = some r := H
        have A8 := Aside0.mk A80
        clear A80
        replace H := Option.bind_eq_some_iff.mp H
        obtain ⟨⟨t104, t105, t106⟩, A90, H⟩ := H
        replace H : (if t103 = 0 then (if t106 = 0 then (if t105 = 0 then (if t104.toList = a0.toList then (cognatelaw01_RunesPlain.j1 kj3 a1 t101 t102 (decide ((t102.size : Int) < (wrap64 ((a0.size : Int) + 2))))) else (cognatelaw01_RunesPlain.j1 kj3 a1 t101 t102 true)) else (cognatelaw01_RunesPlain.j1 kj3 a1 t101 t102 true)) else (cognatelaw01_RunesPlain.j1 kj3 a1 t101 t102 true)) else (cognatelaw01_RunesPlain.j1 kj3 a1 t101 t102 true)) = some r := H
        have A9 := Aside0.mk A90
        clear A90
        have HC10 := Aside0.mk H
        clear H
        go_upto_region 6 with (first | ((with_reducible refine gate_callee (f := 27) rfl ?_); refine goesL_ (some 29) rfl rfl Tryd.func27 (by kernel_rfl) rfl #[.string a0] rfl (by (try simp only [List.map_toArray, List.map_cons, List.map_nil]); first | done | rfl | (simp only [List.length_drop, List.length_take]; rfl)) ?_; (with_reducible refine (runes_Quote.calls a0 t102 t103 _ ?side1 ?side2 A8.out).mono ?_); (case side1 => exact TabU.below HTU.out (by repeat (first | (with_reducible first | exact HB.out | apply below_alloc | apply pw_below_drewN | apply below_drew1) | exact HB.out))); (case side2 => exact TabN.below HTN.out (by repeat (first | (with_reducible first | exact HB.out | apply below_alloc | apply pw_below_drewN | apply below_drew1) | exact HB.out))); rintro e w11 ⟨rfl, hb⟩; refine ⟨_, rfl, ?_⟩; have n0_ := Aside0.mk (below_step (by repeat (first | (with_reducible first | exact HB.out | apply below_alloc | apply pw_below_drewN | apply below_drew1) | exact HB.out)) hb); clear HB; have HB := n0_; clear n0_; (try clear hb); (try clear hb2); (try clear hk); (try clear hi)) | ((with_reducible refine gate_callee (f := 29) rfl ?_); refine goesL_ (some 34) rfl rfl Tryd.func29 (by kernel_rfl) rfl #[.string t102] rfl (by (try simp only [List.map_toArray, List.map_cons, List.map_nil]); first | done | rfl | (simp only [List.length_drop, List.length_take]; rfl)) ?_; (with_reducible refine (runes_Plain.calls t102 t104 t105 t106 _ ?side1 ?side2 ?side3 A9.out).mono ?_); (case side1 => exact TabU.below HTU.out (by repeat (first | (with_reducible first | exact HB.out | apply below_alloc | apply pw_below_drewN | apply below_drew1) | exact HB.out))); (case side2 => exact TabN.below HTN.out (by repeat (first | (with_reducible first | exact HB.out | apply below_alloc | apply pw_below_drewN | apply below_drew1) | exact HB.out))); (case side3 => exact TabE.below HTE.out (by repeat (first | (with_reducible first | exact HB.out | apply below_alloc | apply pw_below_drewN | apply below_drew1) | exact HB.out))); rintro e w12 ⟨rfl, hb⟩; refine ⟨_, rfl, ?_⟩; have n0_ := Aside0.mk (below_step (by repeat (first | (with_reducible first | exact HB.out | apply below_alloc | apply pw_below_drewN | apply below_drew1) | exact HB.out)) hb); clear HB; have HB := n0_; clear n0_; (try clear hb); (try clear hb2); (try clear hk); (try clear hi)))
        (try simp only [Act.put, List.setIfInBounds_toArray, List.set_cons_zero, List.set_cons_succ])
        go_cut [60] (fun v60 wc => ∃ (kq : Nat) (x60_9 : Bool), v60 = .bool x60_9 ∧ Aside0 (cognatelaw01_RunesPlain.j1 kq a1 t101 t102 x60_9 = some r) ∧ Aside0 (kq ≤ kj3) ∧ Aside0 (Below w.heap.size w wc))
        case first =>
          have H := HC10.out
          clear HC10
          by_cases c13 : t103 = 0
          · rw [if_pos c13] at H
            have c13b0 : (t103 == 0) = true := beq_iff_eq.mpr c13
            have c13b1 : (t103 != 0) = false := bne_eq_false_iff_eq.mpr c13
            clear c13
            (first | rw [c13b0] | (simp only [i64_w, i32_w]; rw [c13b0]) | skip)
            by_cases c14 : t106 = 0
            · rw [if_pos c14] at H
              have c14b0 : (t106 == 0) = true := beq_iff_eq.mpr c14
              have c14b1 : (t106 != 0) = false := bne_eq_false_iff_eq.mpr c14
              clear c14
              by_cases c15 : t105 = 0
              · rw [if_pos c15] at H
                have c15b0 : (t105 == 0) = true := beq_iff_eq.mpr c15
                have c15b1 : (t105 != 0) = false := bne_eq_false_iff_eq.mpr c15
                clear c15
                by_cases c16 : t104.toList = a0.toList
                · rw [if_pos c16] at H
                  have c16b0 : (t104.toList == a0.toList) = true := beq_iff_eq.mpr c16
                  have c16b1 : (t104.toList != a0.toList) = false := bne_eq_false_iff_eq.mpr c16
                  clear c16
                  have H' := Aside0.mk H
                  clear H
                  go_wp2
                  go_meet
                  case rel => exact ⟨_, (decide ((t102.size : Int) < (wrap64 ((a0.size : Int) + 2)))), (by first | rfl | (simp; done) | (simp [*]; done) | (simp [bne_nil_bytes]; done)), H', ⟨by have := HJ3.out; first | omega | exact Nat.le_refl _⟩, ⟨by repeat (first | (with_reducible first | exact HB.out | apply below_alloc | apply pw_below_drewN | apply below_drew1) | exact HB.out)⟩⟩
                · rw [if_neg c16] at H
                  have c16b0 : (t104.toList == a0.toList) = false := beq_eq_false_iff_ne.mpr c16
                  have c16b1 : (t104.toList != a0.toList) = true := bne_iff_ne.mpr c16
                  have H' := Aside0.mk H
                  clear H
                  go_wp2
                  go_meet
                  case rel => exact ⟨_, (true), (by first | rfl | (simp; done) | (simp [*]; done) | (simp [bne_nil_bytes]; done)), H', ⟨by have := HJ3.out; first | omega | exact Nat.le_refl _⟩, ⟨by repeat (first | (with_reducible first | exact HB.out | apply below_alloc | apply pw_below_drewN | apply below_drew1) | exact HB.out)⟩⟩
              · rw [if_neg c15] at H
                have c15b0 : (t105 == 0) = false := beq_eq_false_iff_ne.mpr c15
                have c15b1 : (t105 != 0) = true := bne_iff_ne.mpr c15
                have H' := Aside0.mk H
                clear H
                go_wp2
                go_meet
                case rel => exact ⟨_, (true), (by first | rfl | (simp; done) | (simp [*]; done) | (simp [bne_nil_bytes]; done)), H', ⟨by have := HJ3.out; first | omega | exact Nat.le_refl _⟩, ⟨by repeat (first | (with_reducible first | exact HB.out | apply below_alloc | apply pw_below_drewN | apply below_drew1) | exact HB.out)⟩⟩
            · rw [if_neg c14] at H
              have c14b0 : (t106 == 0) = false := beq_eq_false_iff_ne.mpr c14
              have c14b1 : (t106 != 0) = true := bne_iff_ne.mpr c14
              have H' := Aside0.mk H
              clear H
              go_wp2
              go_meet
              case rel => exact ⟨_, (true), (by first | rfl | (simp; done) | (simp [*]; done) | (simp [bne_nil_bytes]; done)), H', ⟨by have := HJ3.out; first | omega | exact Nat.le_refl _⟩, ⟨by repeat (first | (with_reducible first | exact HB.out | apply below_alloc | apply pw_below_drewN | apply below_drew1) | exact HB.out)⟩⟩
          · rw [if_neg c13] at H
            have c13b0 : (t103 == 0) = false := beq_eq_false_iff_ne.mpr c13
            have c13b1 : (t103 != 0) = true := bne_iff_ne.mpr c13
            (first | rw [c13b0] | (simp only [i64_w, i32_w]; rw [c13b0]) | skip)
            have H' := Aside0.mk H
            clear H
            go_wp2
            go_meet
            case rel => exact ⟨_, (true), (by first | rfl | (simp; done) | (simp [*]; done) | (simp [bne_nil_bytes]; done)), H', ⟨by have := HJ3.out; first | omega | exact Nat.le_refl _⟩, ⟨by repeat (first | (with_reducible first | exact HB.out | apply below_alloc | apply pw_below_drewN | apply below_drew1) | exact HB.out)⟩⟩
        case rest =>
          clear HC10
          try clear c1
          try clear c2
          try clear p2
          try clear c6
          try clear c6b0
          try clear c6b1
          try clear p6
          try clear c7
          try clear c8
          try clear c13
          try clear c13b0
          try clear c13b1
          try clear c14
          try clear c14b0
          try clear c14b1
          try clear c15
          try clear c15b0
          try clear c15b1
          try clear c16
          try clear c16b0
          try clear c16b1
          try clear p2
          obtain ⟨kq, x60_9, rfl, HA, HJ9, HB⟩ := hcut
          cases kq with
          | zero => exact absurd HA.out (by simp [cognatelaw01_RunesPlain.j1])
          | succ kj9 =>
            have H := HA.out
            clear HA
            simp only [cognatelaw01_RunesPlain.j1] at H
            by_cases c17 : x60_9 = true
            · subst c17
              have H1 : (some false) = some r := by rw [if_pos rfl] at H; exact H
              clear H
              have H := H1
              clear H1
              obtain rfl := Option.some.inj H
              go_wp2
              go_ret
              exact ⟨by first | rfl | (simp [errW_none, errW_some] <;> rfl) | (simp [*, errW_none, errW_some] <;> rfl) | (simp [bne_nil_bytes]; done), by repeat (first | (with_reducible first | exact HB.out | apply below_alloc | apply pw_below_drewN | apply below_drew1) | exact HB.out)⟩
            · replace c17 := Bool.eq_false_iff.mpr c17
              subst c17
              have H1 : (cognatelaw01_RunesPlain.l0 kj9 a1 t101 t102 0) = some r := by rw [if_neg (show ¬ (false = true) by decide)] at H; exact H
              clear H
              have H := H1
              clear H1
              have H' := Aside0.mk H
              clear H
              go_wp2
              go_loopg [11] kj9 (fun kq v11 w' => ∃ (x11_3 : Int), v11 = .int .i64 x11_3 ∧ Aside0 (cognatelaw01_RunesPlain.l0 kq a1 t101 t102 x11_3 = some r) ∧ Aside0 (kq ≤ kj9) ∧ Aside0 (Below w.heap.size w w'))
              case atStart => exact ⟨(0), (by first | rfl | (simp; done) | (simp [*]; done) | (simp [bne_nil_bytes]; done)), H', ⟨Nat.le_refl _⟩, ⟨by repeat (first | (with_reducible first | exact HB.out | apply below_alloc | apply pw_below_drewN | apply below_drew1) | exact HB.out)⟩⟩
              case round =>
                clear H'
                try clear c1
                try clear c2
                try clear p2
                try clear c6
                try clear c6b0
                try clear c6b1
                try clear p6
                try clear c7
                try clear c8
                try clear c13
                try clear c13b0
                try clear c13b1
                try clear c14
                try clear c14b0
                try clear c14b1
                try clear c15
                try clear c15b0
                try clear c15b1
                try clear c16
                try clear c16b0
                try clear c16b1
                try clear c17
                try clear p2
                try clear p6
                obtain ⟨x11_3, rfl, HA, HK3, HB⟩ := hrel
                cases gk with
                | zero => exact absurd HA.out (by simp [cognatelaw01_RunesPlain.l0])
                | succ k3 =>
                  have H := HA.out
                  clear HA
                  simp only [cognatelaw01_RunesPlain.l0] at H
                  by_cases c18 : x11_3 < (t102.size : Int)
                  · rw [if_pos c18] at H
                    have c18b0 : decide (x11_3 < (t102.size : Int)) = true := decide_eq_true c18
                    clear c18
                    by_cases c19 : 0 ≤ x11_3
                    · rw [if_pos c19] at H
                      have c19b0 : decide (0 ≤ x11_3) = true := decide_eq_true c19
                      clear c19
                      by_cases c21 : (bt t102 x11_3) < 32
                      · rw [if_pos c21] at H
                        have c21b0 : decide ((bt t102 x11_3) < 32) = true := decide_eq_true c21
                        clear c21
                        obtain rfl := Option.some.inj H
                        have p20 : 0 ≤ (x11_3 : Int) := of_decide_eq_true (by first | (with_reducible assumption) | assumption)
                        have q20 : x11_3 < (t102.size : Int) := of_decide_eq_true (by first | (with_reducible assumption) | assumption)
                        have hx20 := bt_at t102 x11_3
                        replace p20 := eq_true p20
                        replace q20 := eq_true q20
                        go_wp2
                        go_ret
                        exact ⟨by first | rfl | (simp [errW_none, errW_some] <;> rfl) | (simp [*, errW_none, errW_some] <;> rfl) | (simp [bne_nil_bytes]; done), by repeat (first | (with_reducible first | exact HB.out | apply below_alloc | apply pw_below_drewN | apply below_drew1) | exact HB.out)⟩
                      · rw [if_neg c21] at H
                        have c21b0 : decide ((bt t102 x11_3) < 32) = false := decide_eq_false c21
                        clear c21
                        by_cases c23 : (bt t102 x11_3) > 126
                        · rw [if_pos c23] at H
                          have c23b0 : decide (126 < (bt t102 x11_3)) = true := decide_eq_true c23
                          clear c23
                          obtain rfl := Option.some.inj H
                          have p20 : 0 ≤ (x11_3 : Int) := of_decide_eq_true (by first | (with_reducible assumption) | assumption)
                          have q20 : x11_3 < (t102.size : Int) := of_decide_eq_true (by first | (with_reducible assumption) | assumption)
                          have hx20 := bt_at t102 x11_3
                          replace p20 := eq_true p20
                          replace q20 := eq_true q20
                          have p22 : 0 ≤ (x11_3 : Int) := of_decide_eq_true (by first | (with_reducible assumption) | assumption)
                          have q22 : x11_3 < (t102.size : Int) := of_decide_eq_true (by first | (with_reducible assumption) | assumption)
                          have hx22 := bt_at t102 x11_3
                          replace p22 := eq_true p22
                          replace q22 := eq_true q22
                          go_wp2
                          go_ret
                          exact ⟨by first | rfl | (simp [errW_none, errW_some] <;> rfl) | (simp [*, errW_none, errW_some] <;> rfl) | (simp [bne_nil_bytes]; done), by repeat (first | (with_reducible first | exact HB.out | apply below_alloc | apply pw_below_drewN | apply below_drew1) | exact HB.out)⟩
                        · rw [if_neg c23] at H
                          have c23b0 : decide (126 < (bt t102 x11_3)) = false := decide_eq_false c23
                          clear c23
                          have H' := Aside0.mk H
                          clear H
                          have p20 : 0 ≤ (x11_3 : Int) := of_decide_eq_true (by first | (with_reducible assumption) | assumption)
                          have q20 : x11_3 < (t102.size : Int) := of_decide_eq_true (by first | (with_reducible assumption) | assumption)
                          have hx20 := bt_at t102 x11_3
                          replace p20 := eq_true p20
                          replace q20 := eq_true q20
                          have p22 : 0 ≤ (x11_3 : Int) := of_decide_eq_true (by first | (with_reducible assumption) | assumption)
                          have q22 : x11_3 < (t102.size : Int) := of_decide_eq_true (by first | (with_reducible assumption) | assumption)
                          have hx22 := bt_at t102 x11_3
                          replace p22 := eq_true p22
                          replace q22 := eq_true q22
                          go_wp2
                          go_roundg k3
                          case measure => have := HJ3.out; have := HJ9.out; have := HK3.out; omega
                          case rel => exact ⟨(wrap64 (x11_3 + 1)), (by first | rfl | (simp; done) | (simp [*]; done) | (simp [bne_nil_bytes]; done)), H', ⟨by have := HJ3.out; have := HJ9.out; have := HK3.out; omega⟩, ⟨by repeat (first | (with_reducible first | exact HB.out | apply below_alloc | apply pw_below_drewN | apply below_drew1) | exact HB.out)⟩⟩
                    · rw [if_neg c19] at H
                      exact absurd H (by simp)
                  · rw [if_neg c18] at H
                    have c18b0 : decide (x11_3 < (t102.size : Int)) = false := decide_eq_false c18
                    clear c18
                    replace H := Option.bind_eq_some_iff.mp H
                    obtain ⟨⟨t107, t108, t109⟩, A240, H⟩ := H
                    replace H : (if t109 = 0 then ((runes_Quote.f t107).bind fun bt110 => (if t101 = true then (if bt110.2 = 0 then (if bt110.1.toList = a1.toList then (some (t108 == 0)) else (some false)) else (some false)) else (some false))) else (if t101 = true then (if t107.toList = ([] : List UInt8) then (if t108 ≥ 0 then (some (decide (t108 ≤ (a1.size : Int)))) else (some false)) else (some false)) else (some false))) = some r := H
                    have A24 := Aside0.mk A240
                    clear A240
                    by_cases c25 : t109 = 0
                    · rw [if_pos c25] at H
                      have c25b0 : (t109 == 0) = true := beq_iff_eq.mpr c25
                      have c25b1 : (t109 != 0) = false := bne_eq_false_iff_eq.mpr c25
                      clear c25
                      replace H := Option.bind_eq_some_iff.mp H
                      obtain ⟨⟨t110, t111⟩, A260, H⟩ := H
                      replace H : (if t101 = true then (if t111 = 0 then (if t110.toList = a1.toList then (some (t108 == 0)) else (some false)) else (some false)) else (some false)) = some r := H
                      have A26 := Aside0.mk A260
                      clear A260
                      by_cases c27 : t101 = true
                      · subst c27
                        have H1 : (if t111 = 0 then (if t110.toList = a1.toList then (some (t108 == 0)) else (some false)) else (some false)) = some r := by rw [if_pos rfl] at H; exact H
                        clear H
                        have H := H1
                        clear H1
                        by_cases c28 : t111 = 0
                        · rw [if_pos c28] at H
                          have c28b0 : (t111 == 0) = true := beq_iff_eq.mpr c28
                          have c28b1 : (t111 != 0) = false := bne_eq_false_iff_eq.mpr c28
                          clear c28
                          by_cases c29 : t110.toList = a1.toList
                          · rw [if_pos c29] at H
                            have c29b0 : (t110.toList == a1.toList) = true := beq_iff_eq.mpr c29
                            have c29b1 : (t110.toList != a1.toList) = false := bne_eq_false_iff_eq.mpr c29
                            clear c29
                            obtain rfl := Option.some.inj H
                            go_wp2_with (first | ((with_reducible refine gate_callee (f := 29) rfl ?_); refine goesL_ (some 79) rfl rfl Tryd.func29 (by kernel_rfl) rfl #[.string a1] rfl (by (try simp only [List.map_toArray, List.map_cons, List.map_nil]); first | done | rfl | (simp only [List.length_drop, List.length_take]; rfl)) ?_; (with_reducible refine (runes_Plain.calls a1 t107 t108 t109 _ ?side1 ?side2 ?side3 A24.out).mono ?_); (case side1 => exact TabU.below HTU.out (by repeat (first | (with_reducible first | exact HB.out | apply below_alloc | apply pw_below_drewN | apply below_drew1) | exact HB.out))); (case side2 => exact TabN.below HTN.out (by repeat (first | (with_reducible first | exact HB.out | apply below_alloc | apply pw_below_drewN | apply below_drew1) | exact HB.out))); (case side3 => exact TabE.below HTE.out (by repeat (first | (with_reducible first | exact HB.out | apply below_alloc | apply pw_below_drewN | apply below_drew1) | exact HB.out))); rintro e w30 ⟨rfl, hb⟩; refine ⟨_, rfl, ?_⟩; have n0_ := Aside0.mk (below_step (by repeat (first | (with_reducible first | exact HB.out | apply below_alloc | apply pw_below_drewN | apply below_drew1) | exact HB.out)) hb); clear HB; have HB := n0_; clear n0_; (try clear hb); (try clear hb2); (try clear hk); (try clear hi)) | ((with_reducible refine gate_callee (f := 27) rfl ?_); refine goesL_ (some 102) rfl rfl Tryd.func27 (by kernel_rfl) rfl #[.string t107] rfl (by (try simp only [List.map_toArray, List.map_cons, List.map_nil]); first | done | rfl | (simp only [List.length_drop, List.length_take]; rfl)) ?_; (with_reducible refine (runes_Quote.calls t107 t110 t111 _ ?side1 ?side2 A26.out).mono ?_); (case side1 => exact TabU.below HTU.out (by repeat (first | (with_reducible first | exact HB.out | apply below_alloc | apply pw_below_drewN | apply below_drew1) | exact HB.out))); (case side2 => exact TabN.below HTN.out (by repeat (first | (with_reducible first | exact HB.out | apply below_alloc | apply pw_below_drewN | apply below_drew1) | exact HB.out))); rintro e w31 ⟨rfl, hb⟩; refine ⟨_, rfl, ?_⟩; have n0_ := Aside0.mk (below_step (by repeat (first | (with_reducible first | exact HB.out | apply below_alloc | apply pw_below_drewN | apply below_drew1) | exact HB.out)) hb); clear HB; have HB := n0_; clear n0_; (try clear hb); (try clear hb2); (try clear hk); (try clear hi)))
                            go_ret
                            exact ⟨by first | rfl | (simp [errW_none, errW_some] <;> rfl) | (simp [*, errW_none, errW_some] <;> rfl) | (simp [bne_nil_bytes]; done), by repeat (first | (with_reducible first | exact HB.out | apply below_alloc | apply pw_below_drewN | apply below_drew1) | exact HB.out)⟩
                          · rw [if_neg c29] at H
                            have c29b0 : (t110.toList == a1.toList) = false := beq_eq_false_iff_ne.mpr c29
                            have c29b1 : (t110.toList != a1.toList) = true := bne_iff_ne.mpr c29
                            obtain rfl := Option.some.inj H
                            go_wp2_with (first | ((with_reducible refine gate_callee (f := 29) rfl ?_); refine goesL_ (some 79) rfl rfl Tryd.func29 (by kernel_rfl) rfl #[.string a1] rfl (by (try simp only [List.map_toArray, List.map_cons, List.map_nil]); first | done | rfl | (simp only [List.length_drop, List.length_take]; rfl)) ?_; (with_reducible refine (runes_Plain.calls a1 t107 t108 t109 _ ?side1 ?side2 ?side3 A24.out).mono ?_); (case side1 => exact TabU.below HTU.out (by repeat (first | (with_reducible first | exact HB.out | apply below_alloc | apply pw_below_drewN | apply below_drew1) | exact HB.out))); (case side2 => exact TabN.below HTN.out (by repeat (first | (with_reducible first | exact HB.out | apply below_alloc | apply pw_below_drewN | apply below_drew1) | exact HB.out))); (case side3 => exact TabE.below HTE.out (by repeat (first | (with_reducible first | exact HB.out | apply below_alloc | apply pw_below_drewN | apply below_drew1) | exact HB.out))); rintro e w32 ⟨rfl, hb⟩; refine ⟨_, rfl, ?_⟩; have n0_ := Aside0.mk (below_step (by repeat (first | (with_reducible first | exact HB.out | apply below_alloc | apply pw_below_drewN | apply below_drew1) | exact HB.out)) hb); clear HB; have HB := n0_; clear n0_; (try clear hb); (try clear hb2); (try clear hk); (try clear hi)) | ((with_reducible refine gate_callee (f := 27) rfl ?_); refine goesL_ (some 102) rfl rfl Tryd.func27 (by kernel_rfl) rfl #[.string t107] rfl (by (try simp only [List.map_toArray, List.map_cons, List.map_nil]); first | done | rfl | (simp only [List.length_drop, List.length_take]; rfl)) ?_; (with_reducible refine (runes_Quote.calls t107 t110 t111 _ ?side1 ?side2 A26.out).mono ?_); (case side1 => exact TabU.below HTU.out (by repeat (first | (with_reducible first | exact HB.out | apply below_alloc | apply pw_below_drewN | apply below_drew1) | exact HB.out))); (case side2 => exact TabN.below HTN.out (by repeat (first | (with_reducible first | exact HB.out | apply below_alloc | apply pw_below_drewN | apply below_drew1) | exact HB.out))); rintro e w33 ⟨rfl, hb⟩; refine ⟨_, rfl, ?_⟩; have n0_ := Aside0.mk (below_step (by repeat (first | (with_reducible first | exact HB.out | apply below_alloc | apply pw_below_drewN | apply below_drew1) | exact HB.out)) hb); clear HB; have HB := n0_; clear n0_; (try clear hb); (try clear hb2); (try clear hk); (try clear hi)))
                            go_ret
                            exact ⟨by first | rfl | (simp [errW_none, errW_some] <;> rfl) | (simp [*, errW_none, errW_some] <;> rfl) | (simp [bne_nil_bytes]; done), by repeat (first | (with_reducible first | exact HB.out | apply below_alloc | apply pw_below_drewN | apply below_drew1) | exact HB.out)⟩
                        · rw [if_neg c28] at H
                          have c28b0 : (t111 == 0) = false := beq_eq_false_iff_ne.mpr c28
                          have c28b1 : (t111 != 0) = true := bne_iff_ne.mpr c28
                          obtain rfl := Option.some.inj H
                          go_wp2_with (first | ((with_reducible refine gate_callee (f := 29) rfl ?_); refine goesL_ (some 79) rfl rfl Tryd.func29 (by kernel_rfl) rfl #[.string a1] rfl (by (try simp only [List.map_toArray, List.map_cons, List.map_nil]); first | done | rfl | (simp only [List.length_drop, List.length_take]; rfl)) ?_; (with_reducible refine (runes_Plain.calls a1 t107 t108 t109 _ ?side1 ?side2 ?side3 A24.out).mono ?_); (case side1 => exact TabU.below HTU.out (by repeat (first | (with_reducible first | exact HB.out | apply below_alloc | apply pw_below_drewN | apply below_drew1) | exact HB.out))); (case side2 => exact TabN.below HTN.out (by repeat (first | (with_reducible first | exact HB.out | apply below_alloc | apply pw_below_drewN | apply below_drew1) | exact HB.out))); (case side3 => exact TabE.below HTE.out (by repeat (first | (with_reducible first | exact HB.out | apply below_alloc | apply pw_below_drewN | apply below_drew1) | exact HB.out))); rintro e w34 ⟨rfl, hb⟩; refine ⟨_, rfl, ?_⟩; have n0_ := Aside0.mk (below_step (by repeat (first | (with_reducible first | exact HB.out | apply below_alloc | apply pw_below_drewN | apply below_drew1) | exact HB.out)) hb); clear HB; have HB := n0_; clear n0_; (try clear hb); (try clear hb2); (try clear hk); (try clear hi)) | ((with_reducible refine gate_callee (f := 27) rfl ?_); refine goesL_ (some 102) rfl rfl Tryd.func27 (by kernel_rfl) rfl #[.string t107] rfl (by (try simp only [List.map_toArray, List.map_cons, List.map_nil]); first | done | rfl | (simp only [List.length_drop, List.length_take]; rfl)) ?_; (with_reducible refine (runes_Quote.calls t107 t110 t111 _ ?side1 ?side2 A26.out).mono ?_); (case side1 => exact TabU.below HTU.out (by repeat (first | (with_reducible first | exact HB.out | apply below_alloc | apply pw_below_drewN | apply below_drew1) | exact HB.out))); (case side2 => exact TabN.below HTN.out (by repeat (first | (with_reducible first | exact HB.out | apply below_alloc | apply pw_below_drewN | apply below_drew1) | exact HB.out))); rintro e w35 ⟨rfl, hb⟩; refine ⟨_, rfl, ?_⟩; have n0_ := Aside0.mk (below_step (by repeat (first | (with_reducible first | exact HB.out | apply below_alloc | apply pw_below_drewN | apply below_drew1) | exact HB.out)) hb); clear HB; have HB := n0_; clear n0_; (try clear hb); (try clear hb2); (try clear hk); (try clear hi)))
                          go_ret
                          exact ⟨by first | rfl | (simp [errW_none, errW_some] <;> rfl) | (simp [*, errW_none, errW_some] <;> rfl) | (simp [bne_nil_bytes]; done), by repeat (first | (with_reducible first | exact HB.out | apply below_alloc | apply pw_below_drewN | apply below_drew1) | exact HB.out)⟩
                      · replace c27 := Bool.eq_false_iff.mpr c27
                        subst c27
                        have H1 : (some false) = some r := by rw [if_neg (show ¬ (false = true) by decide)] at H; exact H
                        clear H
                        have H := H1
                        clear H1
                        obtain rfl := Option.some.inj H
                        go_wp2_with (first | ((with_reducible refine gate_callee (f := 29) rfl ?_); refine goesL_ (some 79) rfl rfl Tryd.func29 (by kernel_rfl) rfl #[.string a1] rfl (by (try simp only [List.map_toArray, List.map_cons, List.map_nil]); first | done | rfl | (simp only [List.length_drop, List.length_take]; rfl)) ?_; (with_reducible refine (runes_Plain.calls a1 t107 t108 t109 _ ?side1 ?side2 ?side3 A24.out).mono ?_); (case side1 => exact TabU.below HTU.out (by repeat (first | (with_reducible first | exact HB.out | apply below_alloc | apply pw_below_drewN | apply below_drew1) | exact HB.out))); (case side2 => exact TabN.below HTN.out (by repeat (first | (with_reducible first | exact HB.out | apply below_alloc | apply pw_below_drewN | apply below_drew1) | exact HB.out))); (case side3 => exact TabE.below HTE.out (by repeat (first | (with_reducible first | exact HB.out | apply below_alloc | apply pw_below_drewN | apply below_drew1) | exact HB.out))); rintro e w36 ⟨rfl, hb⟩; refine ⟨_, rfl, ?_⟩; have n0_ := Aside0.mk (below_step (by repeat (first | (with_reducible first | exact HB.out | apply below_alloc | apply pw_below_drewN | apply below_drew1) | exact HB.out)) hb); clear HB; have HB := n0_; clear n0_; (try clear hb); (try clear hb2); (try clear hk); (try clear hi)) | ((with_reducible refine gate_callee (f := 27) rfl ?_); refine goesL_ (some 102) rfl rfl Tryd.func27 (by kernel_rfl) rfl #[.string t107] rfl (by (try simp only [List.map_toArray, List.map_cons, List.map_nil]); first | done | rfl | (simp only [List.length_drop, List.length_take]; rfl)) ?_; (with_reducible refine (runes_Quote.calls t107 t110 t111 _ ?side1 ?side2 A26.out).mono ?_); (case side1 => exact TabU.below HTU.out (by repeat (first | (with_reducible first | exact HB.out | apply below_alloc | apply pw_below_drewN | apply below_drew1) | exact HB.out))); (case side2 => exact TabN.below HTN.out (by repeat (first | (with_reducible first | exact HB.out | apply below_alloc | apply pw_below_drewN | apply below_drew1) | exact HB.out))); rintro e w37 ⟨rfl, hb⟩; refine ⟨_, rfl, ?_⟩; have n0_ := Aside0.mk (below_step (by repeat (first | (with_reducible first | exact HB.out | apply below_alloc | apply pw_below_drewN | apply below_drew1) | exact HB.out)) hb); clear HB; have HB := n0_; clear n0_; (try clear hb); (try clear hb2); (try clear hk); (try clear hi)))
                        go_ret
                        exact ⟨by first | rfl | (simp [errW_none, errW_some] <;> rfl) | (simp [*, errW_none, errW_some] <;> rfl) | (simp [bne_nil_bytes]; done), by repeat (first | (with_reducible first | exact HB.out | apply below_alloc | apply pw_below_drewN | apply below_drew1) | exact HB.out)⟩
                    · rw [if_neg c25] at H
                      have c25b0 : (t109 == 0) = false := beq_eq_false_iff_ne.mpr c25
                      have c25b1 : (t109 != 0) = true := bne_iff_ne.mpr c25
                      by_cases c38 : t101 = true
                      · subst c38
                        have H1 : (if t107.toList = ([] : List UInt8) then (if t108 ≥ 0 then (some (decide (t108 ≤ (a1.size : Int)))) else (some false)) else (some false)) = some r := by rw [if_pos rfl] at H; exact H
                        clear H
                        have H := H1
                        clear H1
                        by_cases c39 : t107.toList = ([] : List UInt8)
                        · rw [if_pos c39] at H
                          have c39b0 : (t107.toList == ([] : List UInt8)) = true := beq_iff_eq.mpr c39
                          have c39b1 : (t107.toList != ([] : List UInt8)) = false := bne_eq_false_iff_eq.mpr c39
                          clear c39
                          by_cases c40 : t108 ≥ 0
                          · rw [if_pos c40] at H
                            have c40b0 : decide (0 ≤ t108) = true := decide_eq_true c40
                            clear c40
                            obtain rfl := Option.some.inj H
                            go_wp2_with (first | ((with_reducible refine gate_callee (f := 29) rfl ?_); refine goesL_ (some 79) rfl rfl Tryd.func29 (by kernel_rfl) rfl #[.string a1] rfl (by (try simp only [List.map_toArray, List.map_cons, List.map_nil]); first | done | rfl | (simp only [List.length_drop, List.length_take]; rfl)) ?_; (with_reducible refine (runes_Plain.calls a1 t107 t108 t109 _ ?side1 ?side2 ?side3 A24.out).mono ?_); (case side1 => exact TabU.below HTU.out (by repeat (first | (with_reducible first | exact HB.out | apply below_alloc | apply pw_below_drewN | apply below_drew1) | exact HB.out))); (case side2 => exact TabN.below HTN.out (by repeat (first | (with_reducible first | exact HB.out | apply below_alloc | apply pw_below_drewN | apply below_drew1) | exact HB.out))); (case side3 => exact TabE.below HTE.out (by repeat (first | (with_reducible first | exact HB.out | apply below_alloc | apply pw_below_drewN | apply below_drew1) | exact HB.out))); rintro e w41 ⟨rfl, hb⟩; refine ⟨_, rfl, ?_⟩; have n0_ := Aside0.mk (below_step (by repeat (first | (with_reducible first | exact HB.out | apply below_alloc | apply pw_below_drewN | apply below_drew1) | exact HB.out)) hb); clear HB; have HB := n0_; clear n0_; (try clear hb); (try clear hb2); (try clear hk); (try clear hi)))
                            go_ret
                            exact ⟨by first | rfl | (simp [errW_none, errW_some] <;> rfl) | (simp [*, errW_none, errW_some] <;> rfl) | (simp [bne_nil_bytes]; done), by repeat (first | (with_reducible first | exact HB.out | apply below_alloc | apply pw_below_drewN | apply below_drew1) | exact HB.out)⟩
                          · rw [if_neg c40] at H
                            have c40b0 : decide (0 ≤ t108) = false := decide_eq_false c40
                            clear c40
                            obtain rfl := Option.some.inj H
                            go_wp2_with (first | ((with_reducible refine gate_callee (f := 29) rfl ?_); refine goesL_ (some 79) rfl rfl Tryd.func29 (by kernel_rfl) rfl #[.string a1] rfl (by (try simp only [List.map_toArray, List.map_cons, List.map_nil]); first | done | rfl | (simp only [List.length_drop, List.length_take]; rfl)) ?_; (with_reducible refine (runes_Plain.calls a1 t107 t108 t109 _ ?side1 ?side2 ?side3 A24.out).mono ?_); (case side1 => exact TabU.below HTU.out (by repeat (first | (with_reducible first | exact HB.out | apply below_alloc | apply pw_below_drewN | apply below_drew1) | exact HB.out))); (case side2 => exact TabN.below HTN.out (by repeat (first | (with_reducible first | exact HB.out | apply below_alloc | apply pw_below_drewN | apply below_drew1) | exact HB.out))); (case side3 => exact TabE.below HTE.out (by repeat (first | (with_reducible first | exact HB.out | apply below_alloc | apply pw_below_drewN | apply below_drew1) | exact HB.out))); rintro e w42 ⟨rfl, hb⟩; refine ⟨_, rfl, ?_⟩; have n0_ := Aside0.mk (below_step (by repeat (first | (with_reducible first | exact HB.out | apply below_alloc | apply pw_below_drewN | apply below_drew1) | exact HB.out)) hb); clear HB; have HB := n0_; clear n0_; (try clear hb); (try clear hb2); (try clear hk); (try clear hi)))
                            go_ret
                            exact ⟨by first | rfl | (simp [errW_none, errW_some] <;> rfl) | (simp [*, errW_none, errW_some] <;> rfl) | (simp [bne_nil_bytes]; done), by repeat (first | (with_reducible first | exact HB.out | apply below_alloc | apply pw_below_drewN | apply below_drew1) | exact HB.out)⟩
                        · rw [if_neg c39] at H
                          have c39b0 : (t107.toList == ([] : List UInt8)) = false := beq_eq_false_iff_ne.mpr c39
                          have c39b1 : (t107.toList != ([] : List UInt8)) = true := bne_iff_ne.mpr c39
                          obtain rfl := Option.some.inj H
                          go_wp2_with (first | ((with_reducible refine gate_callee (f := 29) rfl ?_); refine goesL_ (some 79) rfl rfl Tryd.func29 (by kernel_rfl) rfl #[.string a1] rfl (by (try simp only [List.map_toArray, List.map_cons, List.map_nil]); first | done | rfl | (simp only [List.length_drop, List.length_take]; rfl)) ?_; (with_reducible refine (runes_Plain.calls a1 t107 t108 t109 _ ?side1 ?side2 ?side3 A24.out).mono ?_); (case side1 => exact TabU.below HTU.out (by repeat (first | (with_reducible first | exact HB.out | apply below_alloc | apply pw_below_drewN | apply below_drew1) | exact HB.out))); (case side2 => exact TabN.below HTN.out (by repeat (first | (with_reducible first | exact HB.out | apply below_alloc | apply pw_below_drewN | apply below_drew1) | exact HB.out))); (case side3 => exact TabE.below HTE.out (by repeat (first | (with_reducible first | exact HB.out | apply below_alloc | apply pw_below_drewN | apply below_drew1) | exact HB.out))); rintro e w43 ⟨rfl, hb⟩; refine ⟨_, rfl, ?_⟩; have n0_ := Aside0.mk (below_step (by repeat (first | (with_reducible first | exact HB.out | apply below_alloc | apply pw_below_drewN | apply below_drew1) | exact HB.out)) hb); clear HB; have HB := n0_; clear n0_; (try clear hb); (try clear hb2); (try clear hk); (try clear hi)))
                          go_ret
                          exact ⟨by first | rfl | (simp [errW_none, errW_some] <;> rfl) | (simp [*, errW_none, errW_some] <;> rfl) | (simp [bne_nil_bytes]; done), by repeat (first | (with_reducible first | exact HB.out | apply below_alloc | apply pw_below_drewN | apply below_drew1) | exact HB.out)⟩
                      · replace c38 := Bool.eq_false_iff.mpr c38
                        subst c38
                        have H1 : (some false) = some r := by rw [if_neg (show ¬ (false = true) by decide)] at H; exact H
                        clear H
                        have H := H1
                        clear H1
                        obtain rfl := Option.some.inj H
                        go_wp2_with (first | ((with_reducible refine gate_callee (f := 29) rfl ?_); refine goesL_ (some 79) rfl rfl Tryd.func29 (by kernel_rfl) rfl #[.string a1] rfl (by (try simp only [List.map_toArray, List.map_cons, List.map_nil]); first | done | rfl | (simp only [List.length_drop, List.length_take]; rfl)) ?_; (with_reducible refine (runes_Plain.calls a1 t107 t108 t109 _ ?side1 ?side2 ?side3 A24.out).mono ?_); (case side1 => exact TabU.below HTU.out (by repeat (first | (with_reducible first | exact HB.out | apply below_alloc | apply pw_below_drewN | apply below_drew1) | exact HB.out))); (case side2 => exact TabN.below HTN.out (by repeat (first | (with_reducible first | exact HB.out | apply below_alloc | apply pw_below_drewN | apply below_drew1) | exact HB.out))); (case side3 => exact TabE.below HTE.out (by repeat (first | (with_reducible first | exact HB.out | apply below_alloc | apply pw_below_drewN | apply below_drew1) | exact HB.out))); rintro e w44 ⟨rfl, hb⟩; refine ⟨_, rfl, ?_⟩; have n0_ := Aside0.mk (below_step (by repeat (first | (with_reducible first | exact HB.out | apply below_alloc | apply pw_below_drewN | apply below_drew1) | exact HB.out)) hb); clear HB; have HB := n0_; clear n0_; (try clear hb); (try clear hb2); (try clear hk); (try clear hi)))
                        go_ret
                        exact ⟨by first | rfl | (simp [errW_none, errW_some] <;> rfl) | (simp [*, errW_none, errW_some] <;> rfl) | (simp [bne_nil_bytes]; done), by repeat (first | (with_reducible first | exact HB.out | apply below_alloc | apply pw_below_drewN | apply below_drew1) | exact HB.out)⟩

/-- THE ONE PURE STATEMENT of cognatelaw01_RunesPlain: yours. -/
def cognatelaw01_RunesPlain.Pure : Prop := ∀ (a0 : ByteArray) (a1 : ByteArray), a0.size ≤ 140737488351232 → a1.size ≤ 140737488351232 → ∃ k, cognatelaw01_RunesPlain.f k a0 a1 = some true
theorem cognatelaw01_RunesPlain.walk (P : cognatelaw01_RunesPlain.Pure) (a0 : ByteArray) (a1 : ByteArray) (w : World) (hTU : TabU w) (hTN : TabN w) (hTE : TabE w) (w0 : a0.size ≤ 140737488351232) (w1 : a1.size ≤ 140737488351232) :
    Calls Tryd.prog 8 #[.string a0, .string a1] w fun e w' => e = .returned (.bool true) ∧ Below w.heap.size w w' := by
  obtain ⟨k, h⟩ := P a0 a1 w0 w1
  refine (cognatelaw01_RunesPlain.calls k a0 a1 true w hTU hTN hTE h).mono ?_
  rintro e w' ⟨rfl, hd⟩
  exact ⟨rfl, hd⟩

end Go.Proofs.YtglaagoblcpggaaDoor.R
end

section
set_option linter.unusedVariables false
set_option linter.unusedSimpArgs false
namespace Go.Proofs.YtglaagoblcpggaaDoor.R
open Go.RowKit Go.Proofs.YtglaagoblcpggaaDoorW.PrintWords

/-- The order of lists of numbers, the first unlike one first; a beginning ahead. -/
def lex : List Nat → List Nat → Bool
  | _, [] => false
  | [], _ :: _ => true
  | x :: l, y :: m => if x = y then lex l m else decide (x < y)
/-- A piece's key: its rune; a broken one behind all runes, by its byte. -/
def key (s : ByteArray) (i : Nat) : Nat := if dc s i = bad then 1114112 + (s.get! i).toNat else (dc s i).1
def keys (s : ByteArray) (i : Nat) : List Nat := (pos s i).map (key s)
theorem keys_end (s : ByteArray) (i : Nat) (h : s.size ≤ i) : keys s i = [] := by unfold keys; rw [pos_end s i h]; rfl
theorem keys_step (s : ByteArray) (i : Nat) (h : i < s.size) : keys s i = key s i :: keys s (i + (dc s i).2) := by unfold keys; rw [pos_step s i h]; rfl

/-- One round of runes.Less, at two places. -/
theorem Less_round (a b : ByteArray) (i j : Nat) (ha : a.size ≤ 140737488351232) (hb : b.size ≤ 140737488351232) (hi : i < a.size) (hj : j < b.size) (k : Nat) :
    runes_Less.l0 (k + 5) (a.extract i a.size) (b.extract j b.size) =
      if key a i = key b j then runes_Less.l0 k (a.extract (i + (dc a i).2) a.size) (b.extract (j + (dc b j).2) b.size) else some (decide (key a i < key b j)) := by
  have ba := dc_bounds a i hi
  have bb := dc_bounds b j hj
  have ga := get_lt a i
  have gb := get_lt b j
  have na : ¬ (a.extract i a.size).toList = [] := fun h => by have := (nil_tail a i).1 h; omega
  have nb : ¬ (b.extract j b.size).toList = [] := fun h => by have := (nil_tail b j).1 h; omega
  have sa := sz_tail a i
  have sb := sz_tail b j
  have za : bt (a.extract i a.size) 0 = ((a.get! i).toNat : Int) := by
    have := bt_get (a.extract i a.size) 0 (by rw [sa]; omega)
    rw [get_tail_any] at this
    exact this
  have zb : bt (b.extract j b.size) 0 = ((b.get! j).toNat : Int) := by
    have := bt_get (b.extract j b.size) 0 (by rw [sb]; omega)
    rw [get_tail_any] at this
    exact this
  have ta : (a.extract i a.size).extract (((dc a i).2 : Nat) : Int).toNat (a.extract i a.size).size = a.extract (i + (dc a i).2) a.size := tail_tail a i _ (by omega)
  have tb : (b.extract j b.size).extract (((dc b j).2 : Nat) : Int).toNat (b.extract j b.size).size = b.extract (j + (dc b j).2) b.size := tail_tail b j _ (by omega)
  obtain ⟨R, hR⟩ : ∃ R, (if key a i = key b j then runes_Less.l0 k (a.extract (i + (dc a i).2) a.size) (b.extract (j + (dc b j).2) b.size) else some (decide (key a i < key b j))) = R := ⟨_, rfl⟩
  -- the last part: two numbers that stand for the keys
  have last : ∀ (X Y : Int) (t : Bool), X = (key a i : Int) → (if t = true then wrap64 (1114112 + wrap64 ((b.get! j).toNat : Int)) else Y) = (key b j : Int) →
      runes_Less.j4 (k + 1) (a.extract i a.size) (b.extract j b.size) ((dc a i).2 : Int) ((dc b j).2 : Int) X Y t = R := by
    intro X Y t hX hY
    have goal : ∀ Z : Int, Z = (key b j : Int) → (if X = Z then (if 0 ≤ ((dc a i).2 : Int) then (if ((dc a i).2 : Int) ≤ ((a.extract i a.size).size : Int) then (if 0 ≤ ((dc b j).2 : Int) then (if ((dc b j).2 : Int) ≤ ((b.extract j b.size).size : Int) then (runes_Less.l0 k ((a.extract i a.size).extract (((dc a i).2 : Nat) : Int).toNat (a.extract i a.size).size) ((b.extract j b.size).extract (((dc b j).2 : Nat) : Int).toNat (b.extract j b.size).size)) else none) else none) else none) else none) else some (decide (X < Z))) = R := by
      intro Z hZ
      subst hX hZ
      rw [← hR]
      by_cases e : key a i = key b j
      · rw [if_pos (by omega), if_pos e, if_pos (by omega), if_pos (by rw [sa]; omega), if_pos (by omega), if_pos (by rw [sb]; omega), ta, tb]
      · rw [if_neg (by omega), if_neg e]
        exact congrArg some (decide_eq_decide.2 (by omega))
    rw [runes_Less.j4, zb]
    cases t with
    | true =>
      rw [if_pos rfl, if_pos (by rw [sb]; omega)]
      exact goal _ (by simpa using hY)
    | false =>
      rw [if_neg (by simp)]
      exact goal _ (by simpa using hY)
  have kb : ∀ {s : ByteArray} {i : Nat}, dc s i = bad → wrap64 (1114112 + wrap64 ((s.get! i).toNat : Int)) = (key s i : Int) := by
    intro s i h
    have := get_lt s i
    unfold key
    rw [if_pos h, w64 (n := ((s.get! i).toNat : Int)) (by omega) (by omega), w64 (by omega) (by omega)]
    omega
  have kn : ∀ {s : ByteArray} {i : Nat}, ¬ dc s i = bad → ((dc s i).1 : Int) = (key s i : Int) := by
    intro s i h
    unfold key
    rw [if_neg h]
  -- the second number
  have kA : ∀ X : Int, X = (key a i : Int) → runes_Less.j3 (k + 2) (a.extract i a.size) (b.extract j b.size) ((dc a i).2 : Int) ((dc b j).1 : Int) ((dc b j).2 : Int) X ((dc b j).1 : Int) = R := by
    intro X hX
    rw [runes_Less.j3]
    by_cases e : ((dc b j).1 : Int) = 65533
    · rw [if_pos e]
      refine last X _ _ hX ?_
      by_cases e2 : (dc b j).2 = 1
      · rw [if_pos (by simp; omega)]
        exact kb ((bad_iff b j hj).2 ⟨by omega, e2⟩)
      · rw [if_neg (by simp; omega)]
        exact kn fun h => e2 ((bad_iff b j hj).1 h).2
    · rw [if_neg e]
      refine last X _ _ hX ?_
      rw [if_neg (by simp)]
      exact kn fun h => e (by have := ((bad_iff b j hj).1 h).1; omega)
  -- the first one
  have kB : ∀ (X : Int) (t : Bool), (if t = true then wrap64 (1114112 + wrap64 ((a.get! i).toNat : Int)) else X) = (key a i : Int) → runes_Less.j2 (k + 3) (a.extract i a.size) (b.extract j b.size) ((dc a i).2 : Int) ((dc b j).1 : Int) ((dc b j).2 : Int) X ((dc b j).1 : Int) t = R := by
    intro X t hX
    rw [runes_Less.j2, za]
    cases t with
    | true =>
      rw [if_pos rfl, if_pos (by rw [sa]; omega)]
      exact kA _ (by simpa using hX)
    | false =>
      rw [if_neg (by simp)]
      exact kA _ (by simpa using hX)
  rw [runes_Less.l0, if_neg na, runes_Less.j1, if_pos (by rw [bne_nil_bytes]; cases h : (b.extract j b.size).toList with | nil => exact absurd h nb | cons _ _ => rfl), go_tail a i hi, Option.bind_some, go_tail b j hj, Option.bind_some, hR]
  simp only
  rw [w64 (n := ((dc a i).1 : Int)) (by omega) (by omega), w64 (n := ((dc b j).1 : Int)) (by omega) (by omega)]
  by_cases e : ((dc a i).1 : Int) = 65533
  · rw [if_pos e]
    refine kB _ _ ?_
    by_cases e2 : (dc a i).2 = 1
    · rw [if_pos (by simp; omega)]
      exact kb ((bad_iff a i hi).2 ⟨by omega, e2⟩)
    · rw [if_neg (by simp; omega)]
      exact kn fun h => e2 ((bad_iff a i hi).1 h).2
  · rw [if_neg e]
    refine kB _ _ ?_
    rw [if_neg (by simp)]
    exact kn fun h => e (by have := ((bad_iff a i hi).1 h).1; omega)

theorem Less_loop (a b : ByteArray) (ha : a.size ≤ 140737488351232) (hb : b.size ≤ 140737488351232) (i : Nat) : ∀ (j k : Nat), 5 * (a.size - i) + 2 ≤ k → runes_Less.l0 k (a.extract i a.size) (b.extract j b.size) = some (lex (keys a i) (keys b j)) := by
  refine by_pieces a (P := fun i => ∀ (j k : Nat), 5 * (a.size - i) + 2 ≤ k → runes_Less.l0 k (a.extract i a.size) (b.extract j b.size) = some (lex (keys a i) (keys b j))) ?_ ?_ i
  · intro i h j k hk
    obtain ⟨k, rfl⟩ : ∃ m, k = m + 2 := ⟨k - 2, by omega⟩
    have ea := (nil_tail a i).2 h
    rw [runes_Less.l0, if_pos ea, runes_Less.j1, if_neg (by simp), if_pos ea, keys_end a i h]
    by_cases hj : j < b.size
    · have nb : ¬ (b.extract j b.size).toList = [] := fun h => by have := (nil_tail b j).1 h; omega
      rw [keys_step b j hj]
      refine congrArg some ?_
      show _ = true
      rw [bne_nil_bytes]
      cases h : (b.extract j b.size).toList with
      | nil => exact absurd h nb
      | cons _ _ => rfl
    · rw [keys_end b j (by omega), (nil_tail b j).2 (by omega)]
      rfl
  · intro i hi ih j k hk
    have ba := dc_bounds a i hi
    by_cases hj : j < b.size
    · obtain ⟨k, rfl⟩ : ∃ m, k = m + 5 := ⟨k - 5, by omega⟩
      rw [Less_round a b i j ha hb hi hj k, keys_step a i hi, keys_step b j hj, lex]
      by_cases e : key a i = key b j
      · rw [if_pos e, if_pos e, ih _ _ (by omega)]
      · rw [if_neg e, if_neg e]
    · obtain ⟨k, rfl⟩ : ∃ m, k = m + 2 := ⟨k - 2, by omega⟩
      have na : ¬ (a.extract i a.size).toList = [] := fun h => by have := (nil_tail a i).1 h; omega
      have eb := (nil_tail b j).2 (by omega)
      rw [runes_Less.l0, if_neg na, runes_Less.j1, eb, if_neg (by simp), if_neg na, keys_end b j (by omega), keys_step a i hi]
      rfl

theorem whole (s : ByteArray) : s.extract 0 s.size = s := by simp
/-- WHAT runes.Less COMPUTES. -/
theorem Less_eq (a b : ByteArray) (ha : a.size ≤ 140737488351232) (hb : b.size ≤ 140737488351232) (k : Nat) (hk : 5 * a.size + 2 ≤ k) : runes_Less.f k a b = some (lex (keys a 0) (keys b 0)) := by
  have := Less_loop a b ha hb 0 0 k (by omega)
  rw [whole, whole] at this
  exact this

end Go.Proofs.YtglaagoblcpggaaDoor.R
end

section
set_option linter.unusedVariables false
set_option linter.unusedSimpArgs false
namespace Go.Proofs.YtglaagoblcpggaaDoor.R
open Go.RowKit Go.Proofs.YtglaagoblcpggaaDoorW.PrintWords

theorem lex_self : ∀ l, lex l l = false
  | [] => rfl
  | x :: l => by rw [lex, if_pos rfl]; exact lex_self l
theorem lex_asym : ∀ l m, lex l m = true → lex m l = false
  | _, [], h => by cases h' : (‹List Nat› : List Nat) <;> simp_all [lex]
  | [], _ :: _, _ => rfl
  | x :: l, y :: m, h => by
    rw [lex] at h ⊢
    by_cases e : x = y
    · rw [if_pos e] at h
      rw [if_pos e.symm]
      exact lex_asym l m h
    · rw [if_neg e] at h
      rw [if_neg (Ne.symm e)]
      have := of_decide_eq_true h
      exact decide_eq_false (by omega)
theorem lex_total : ∀ l m, lex l m = false → lex m l = false → l = m
  | [], [], _, _ => rfl
  | [], _ :: _, h, _ => by simp [lex] at h
  | _ :: _, [], _, h => by simp [lex] at h
  | x :: l, y :: m, h1, h2 => by
    rw [lex] at h1 h2
    by_cases e : x = y
    · rw [if_pos e] at h1
      rw [if_pos e.symm] at h2
      rw [e, lex_total l m h1 h2]
    · rw [if_neg e] at h1
      rw [if_neg (Ne.symm e)] at h2
      have a := of_decide_eq_false h1
      have b := of_decide_eq_false h2
      omega
theorem lex_trans : ∀ l m n, lex l m = true → lex m n = true → lex l n = true
  | _, [], _, h, _ => by cases h' : (‹List Nat› : List Nat) <;> simp_all [lex]
  | _, _ :: _, [], _, h => by simp [lex] at h
  | [], _ :: _, _ :: _, _, _ => rfl
  | x :: l, y :: m, z :: n, h1, h2 => by
    rw [lex] at h1 h2 ⊢
    by_cases e : x = y
    · rw [if_pos e] at h1
      subst e
      by_cases e2 : x = z
      · rw [if_pos e2] at h2
        rw [if_pos e2]
        exact lex_trans l m n h1 h2
      · rw [if_neg e2] at h2
        rw [if_neg e2]
        exact h2
    · rw [if_neg e] at h1
      have a := of_decide_eq_true h1
      by_cases e2 : y = z
      · subst e2
        rw [if_neg e]
        exact h1
      · rw [if_neg e2] at h2
        have b := of_decide_eq_true h2
        rw [if_neg (by omega)]
        exact decide_eq_true (by omega)

/-- The bytes that a key stands for. -/
def keyB (k : Nat) : List UInt8 := if 1114112 ≤ k then [(k - 1114112).toUInt8] else Lib.encodeRune (k : Int)
theorem tail_list (s : ByteArray) (i : Nat) : (s.extract i s.size).data.toList = s.data.toList.drop i := by
  have esz : s.size = s.data.size := rfl
  rw [ByteArray.data_extract, Array.toList_extract, List.extract_eq_take_drop, List.take_of_length_le (by rw [List.length_drop, Array.length_toList, esz]; omega)]
theorem dc_take (s : ByteArray) (i : Nat) (h : i < s.size) (hb : ¬ dc s i = bad) : (s.data.toList.drop i).take (dc s i).2 = Lib.encodeRune ((dc s i).1 : Int) := by
  have hl : (s.extract i s.size).data.toList ≠ [] := by
    rw [tail_list]
    intro e
    have := congrArg List.length e
    simp only [List.length_drop, Array.length_toList, List.length_nil] at this
    have e2 : s.data.size = s.size := rfl
    omega
  have hd : Lib.decodeL (s.extract i s.size).data.toList = dc s i := by
    have := dc_tail s i 0
    rw [Nat.add_zero] at this
    rw [← this]
    rfl
  have := Lib.encode_decode _ hl (by rw [hd]; exact fun e => hb ((bad_iff s i h).2 e))
  rw [hd] at this
  rw [this, tail_list]
theorem keys_text (s : ByteArray) (i : Nat) : s.data.toList.drop i = (keys s i).flatMap keyB := by
  have esz : s.data.size = s.size := rfl
  refine by_pieces s (P := fun i => s.data.toList.drop i = (keys s i).flatMap keyB) ?_ ?_ i
  · intro i h
    rw [keys_end s i h, List.drop_eq_nil_of_le (by rw [Array.length_toList]; omega)]
    rfl
  · intro i h ih
    have hb := dc_bounds s i h
    rw [keys_step s i h, List.flatMap_cons, ← ih, ← List.drop_drop, ← List.take_append_drop (dc s i).2 (s.data.toList.drop i)]
    congr 1
    · unfold key keyB
      by_cases e : dc s i = bad
      · rw [if_pos e, if_pos (by omega), e, Nat.add_sub_cancel_left, get_of_lt s i h]
        rw [List.drop_eq_getElem_cons (by rw [Array.length_toList]; omega)]
        show [s.data.toList[i]] = _
        simp [ByteArray.getElem_eq_getElem_data]
      · rw [if_neg e, if_neg (by omega)]
        exact dc_take s i h e
    · rw [List.take_append_drop]
theorem keys_inj (a b : ByteArray) (h : keys a 0 = keys b 0) : a = b := by
  have h1 := keys_text a 0
  have h2 := keys_text b 0
  rw [List.drop_zero] at h1 h2
  rw [← h, ← h1] at h2
  exact ByteArray.ext (Array.toList_inj.1 h2.symm)

theorem alive_eq (k : Nat) (hk : 7 ≤ k) : cognatelaw01_alive.f k = some true := by
  have hl := Less_eq ⟨#[97]⟩ ⟨#[98]⟩ (by decide) (by decide) k hk
  unfold cognatelaw01_alive.f
  have h1 : runes_Pieces.f (⟨#[97, 255]⟩ : ByteArray) = some ([⟨97, 0, 1, false⟩, ⟨65533, 1, 1, true⟩], 0) := by rfl
  have h2 : runes_Quote.f (⟨#[97, 255]⟩ : ByteArray) = some (⟨#[34, 97, 92, 120, 102, 102, 34]⟩, 0) := by rfl
  have h3 : runes_Text.f [97] = some (⟨#[97]⟩) := by rfl
  rw [h1, Option.bind_some, h2, Option.bind_some]
  simp only
  rw [if_pos trivial, if_pos (by decide), if_pos (by decide), if_pos (by decide), if_pos (by decide), if_pos (by decide), if_pos trivial, if_pos (by rw [Lib.toList_data]), h3, Option.bind_some, if_pos (by rw [Lib.toList_data]), hl]
  rfl

/-- RunesRows' pure statement. -/
theorem RunesRows_pure : cognatelaw01_RunesRows.Pure := by
  intro a b c ha hb hc
  refine ⟨5 * a.size + 5 * b.size + 5 * c.size + 30, ?_⟩
  obtain ⟨k, hk⟩ : ∃ k, 5 * a.size + 5 * b.size + 5 * c.size + 30 = k + 1 := ⟨5 * a.size + 5 * b.size + 5 * c.size + 29, rfl⟩
  have skip : cognatelaw01_RunesRows.j0 (k + 1) a b c true = some true := by rw [cognatelaw01_RunesRows.j0, if_pos rfl, alive_eq k (by omega)]; rfl
  have main : cognatelaw01_RunesRows.j0 (k + 1) a b c false = some true := by
    rw [cognatelaw01_RunesRows.j0, if_neg (by simp), Less_eq a b ha hb k (by omega), Option.bind_some, Less_eq b c hb hc k (by omega), Option.bind_some, Less_eq a c ha hc k (by omega), Option.bind_some, Less_eq b a hb ha k (by omega), Option.bind_some, alive_eq k (by omega), Option.bind_some, if_pos rfl, Less_eq a a ha ha k (by omega), Option.bind_some, lex_self, if_neg (by simp)]
    have hsame : (a.toList == b.toList) = (!(lex (keys a 0) (keys b 0)) && !(lex (keys b 0) (keys a 0))) := by
      cases h1 : lex (keys a 0) (keys b 0) with
      | true =>
        simp only [Bool.not_true, Bool.false_and]
        refine beq_eq_false_iff_ne.2 fun e => ?_
        have : a = b := by rw [Lib.toList_data, Lib.toList_data] at e; exact ByteArray.ext (Array.toList_inj.1 e)
        rw [this, lex_self] at h1
        cases h1
      | false =>
        cases h2 : lex (keys b 0) (keys a 0) with
        | true =>
          simp only [Bool.not_true, Bool.and_false]
          refine beq_eq_false_iff_ne.2 fun e => ?_
          have : a = b := by rw [Lib.toList_data, Lib.toList_data] at e; exact ByteArray.ext (Array.toList_inj.1 e)
          rw [this, lex_self] at h2
          cases h2
        | false => rw [keys_inj a b (lex_total _ _ h1 h2)]; simp
    rw [hsame]
    cases h1 : lex (keys a 0) (keys b 0) with
    | true =>
      rw [if_pos rfl, lex_asym _ _ h1, if_neg (by simp), if_neg (by simp)]
      cases h2 : lex (keys b 0) (keys c 0) with
      | true => rw [if_pos rfl, lex_trans _ _ _ h1 h2]
      | false => rw [if_neg (by simp)]
    | false =>
      rw [if_neg (by simp)]
      cases h2 : lex (keys b 0) (keys a 0) <;> simp
  unfold cognatelaw01_RunesRows.f
  rw [hk]
  by_cases h1 : (a.size : Int) > 5000
  · rw [if_pos h1, skip]
  · rw [if_neg h1]
    by_cases h2 : (b.size : Int) > 5000
    · rw [if_pos h2, skip]
    · rw [if_neg h2]
      by_cases h3 : (c.size : Int) > 5000
      · rw [decide_eq_true h3, skip]
      · rw [decide_eq_false h3, main]
end Go.Proofs.YtglaagoblcpggaaDoor.R
end

section
set_option linter.unusedVariables false
set_option linter.unusedSimpArgs false
namespace Go.Proofs.YtglaagoblcpggaaDoor.R
open Go.RowKit Go.Proofs.YtglaagoblcpggaaDoorW.PrintWords

theorem byte8 (n : Nat) : (UInt8.ofNat n).toNat = n % 256 := by simp
/-- A rune that can be written. -/
def okRune (c : Int) : Prop := 0 ≤ c ∧ c ≤ 1114111 ∧ (c < 55296 ∨ 57343 < c)
theorem valid_ok (r : Int) : Utf8.valid r = true ↔ okRune r := by
  unfold Utf8.valid okRune
  simp
  omega
theorem Len_pieces (s : ByteArray) (h : (s.size : Int) ≤ 65536) : runes_Len.f s = some (((pieces s).length : Int), 0) := by
  unfold runes_Len.f runes_long.f utf8_RuneCountInString.f
  rw [if_neg (by omega), Option.bind_some, if_pos rfl, if_pos (by omega)]
  rfl
theorem decN2 (n c b2 b3 : Nat) (hn : 1 < n) (h1 : 128 ≤ c) (h2 : c < 2048) : Lib.decodeN n (192 + c / 64) (128 + c % 64) b2 b3 = (c, 2) := by
  unfold Lib.decodeN
  rw [if_neg (by omega), if_pos (by omega), if_pos (by omega)]
  exact Prod.ext (by simp only; omega) rfl
theorem decN3 (n c b3 : Nat) (hn : 2 < n) (h1 : 2048 ≤ c) (h2 : c < 65536) (hs : c < 55296 ∨ 57343 < c) : Lib.decodeN n (224 + c / 4096) (128 + c / 64 % 64) (128 + c % 64) b3 = (c, 3) := by
  have e : (224 + c / 4096) % 16 * 4096 + (128 + c / 64 % 64) % 64 * 64 + (128 + c % 64) % 64 = c := by omega
  unfold Lib.decodeN
  rw [e, if_neg (by omega), if_neg (by omega), if_pos (by omega), if_pos (by omega)]
theorem decN4 (n c : Nat) (hn : 3 < n) (h1 : 65536 ≤ c) (h2 : c < 1114112) : Lib.decodeN n (240 + c / 262144) (128 + c / 4096 % 64) (128 + c / 64 % 64) (128 + c % 64) = (c, 4) := by
  have e : (240 + c / 262144) % 8 * 262144 + (128 + c / 4096 % 64) % 64 * 4096 + (128 + c / 64 % 64) % 64 * 64 + (128 + c % 64) % 64 = c := by omega
  unfold Lib.decodeN
  rw [e, if_neg (by omega), if_neg (by omega), if_neg (by omega), if_pos (by omega), if_pos (by omega)]

theorem get_drop (t : ByteArray) (i j : Nat) (l : List UInt8) (h : t.data.toList.drop i = l) (x : UInt8) (hj : l[j]? = some x) : t.get! (i + j) = x := by
  have esz : t.size = t.data.size := rfl
  rw [← h, List.getElem?_drop] at hj
  obtain ⟨hlt, hx⟩ := List.getElem?_eq_some_iff.1 hj
  rw [Array.length_toList] at hlt
  rw [get_of_lt t (i + j) (by omega), ← hx]
  simp [ByteArray.getElem_eq_getElem_data]
theorem size_drop (t : ByteArray) (i : Nat) (l : List UInt8) (h : t.data.toList.drop i = l) : t.size - i = l.length := by
  rw [← h, List.length_drop, Array.length_toList]
  rfl
theorem enc_valid (c : Nat) (hv : okRune c) : Utf8.encode (c : Int) = if c < 128 then ⟨#[UInt8.ofNat c]⟩ else if c < 2048 then ⟨#[UInt8.ofNat (192 + c / 64), UInt8.ofNat (128 + c % 64)]⟩
    else if c < 65536 then ⟨#[UInt8.ofNat (224 + c / 4096), UInt8.ofNat (128 + c / 64 % 64), UInt8.ofNat (128 + c % 64)]⟩ else ⟨#[UInt8.ofNat (240 + c / 262144), UInt8.ofNat (128 + c / 4096 % 64), UInt8.ofNat (128 + c / 64 % 64), UInt8.ofNat (128 + c % 64)]⟩ := by
  unfold Utf8.encode
  simp only
  rw [if_pos ((valid_ok _).2 hv), Int.toNat_natCast]
/-- A rune's bytes at a place: it decodes to the rune. -/
theorem dc_enc (t : ByteArray) (i c : Nat) (hv : okRune c) (rest : List UInt8) (h : t.data.toList.drop i = (Utf8.encode (c : Int)).data.toList ++ rest) : i < t.size ∧ dc t i = (c, (Utf8.encode (c : Int)).size) ∧ dc t i ≠ bad := by
  have hs := size_drop t i _ h
  have hv' := hv
  unfold okRune at hv'
  rw [dc_N, show t.get! i = t.get! (i + 0) from rfl, hs]
  have g := fun j x => get_drop t i j _ h x
  rw [enc_valid c hv] at hs g ⊢
  clear h
  have o : ∀ n : Nat, n < 256 → (UInt8.ofNat n).toNat = n := fun n hn => by rw [byte8]; omega
  by_cases h1 : c < 128
  · rw [if_pos h1] at hs g ⊢
    have e : Lib.decodeN ((#[UInt8.ofNat c] : Array UInt8).toList ++ rest).length (t.get! (i + 0)).toNat (t.get! (i + 1)).toNat (t.get! (i + 2)).toNat (t.get! (i + 3)).toNat = (c, 1) := by
      rw [g 0 _ rfl, o _ (by omega)]
      unfold Lib.decodeN
      rw [if_pos h1]
    simp only [List.cons_append, List.length_cons] at hs
    refine ⟨by omega, e, ?_⟩
    show Lib.decodeN ((#[UInt8.ofNat c] : Array UInt8).toList ++ rest).length (t.get! (i + 0)).toNat (t.get! (i + 1)).toNat (t.get! (i + 2)).toNat (t.get! (i + 3)).toNat ≠ bad
    rw [e]
    intro e
    have := congrArg Prod.fst e
    simp [bad] at this
    omega
  · rw [if_neg h1] at hs g ⊢
    by_cases h2 : c < 2048
    · rw [if_pos h2] at hs g ⊢
      simp only [List.cons_append, List.length_cons, List.nil_append] at hs g ⊢
      rw [g 0 _ rfl, g 1 _ rfl, o _ (by omega), o _ (by omega), decN2 _ _ _ _ (by omega) (by omega) (by omega)]
      exact ⟨by omega, rfl, fun e => by cases congrArg Prod.snd e⟩
    · rw [if_neg h2] at hs g ⊢
      by_cases h3 : c < 65536
      · rw [if_pos h3] at hs g ⊢
        simp only [List.cons_append, List.length_cons, List.nil_append] at hs g ⊢
        rw [g 0 _ rfl, g 1 _ rfl, g 2 _ rfl, o _ (by omega), o _ (by omega), o _ (by omega), decN3 _ _ _ (by omega) (by omega) (by omega) (by omega)]
        exact ⟨by omega, rfl, fun e => by cases congrArg Prod.snd e⟩
      · rw [if_neg h3] at hs g ⊢
        simp only [List.cons_append, List.length_cons, List.nil_append] at hs g ⊢
        rw [g 0 _ rfl, g 1 _ rfl, g 2 _ rfl, g 3 _ rfl, o _ (by omega), o _ (by omega), o _ (by omega), o _ (by omega), decN4 _ _ (by omega) (by omega) (by omega)]
        exact ⟨by omega, rfl, fun e => by cases congrArg Prod.snd e⟩
/-- .. all of them. -/
theorem pos_enc_any (t : ByteArray) (e : Nat → List UInt8) (V : Nat → Prop) (hE : ∀ (i c : Nat) (rest : List UInt8), V c → t.data.toList.drop i = e c ++ rest → i < t.size ∧ dc t i = (c, (e c).length) ∧ dc t i ≠ bad) (l : List Nat) :
    ∀ (i : Nat), (∀ c ∈ l, V c) → t.data.toList.drop i = (l.map e).flatten → (pos t i).map (fun j => (dc t j).1) = l ∧ ∀ j ∈ pos t i, dc t j ≠ bad := by
  induction l with
  | nil =>
    intro i _ h
    have hs := size_drop t i _ h
    rw [pos_end t i (by simp at hs; omega)]
    exact ⟨rfl, fun j hj => by cases hj⟩
  | cons c l ih =>
    intro i hv h
    obtain ⟨h1, h2, h3⟩ := hE i c _ (hv c (.head _)) h
    have h4 : t.data.toList.drop (i + (dc t i).2) = (l.map e).flatten := by
      rw [← List.drop_drop, h, List.map_cons, List.flatten_cons, h2]
      exact List.drop_left' rfl
    obtain ⟨h5, h6⟩ := ih _ (fun c hc => hv c (.tail _ hc)) h4
    rw [pos_step t i h1, List.map_cons, h5]
    refine ⟨by rw [h2], fun j hj => ?_⟩
    rcases List.mem_cons.1 hj with rfl | hj
    · exact h3
    · exact h6 j hj
theorem lenB (b : ByteArray) : b.data.toList.length = b.size := Array.length_toList
theorem pos_enc (t : ByteArray) (l : List Nat) (i : Nat) (hv : ∀ c ∈ l, okRune (c : Int)) (h : t.data.toList.drop i = (l.map fun c : Nat => (Utf8.encode (c : Int)).data.toList).flatten) : (pos t i).map (fun j => (dc t j).1) = l ∧ ∀ j ∈ pos t i, dc t j ≠ bad :=
  pos_enc_any t (fun c : Nat => (Utf8.encode (c : Int)).data.toList) (fun c => okRune (c : Int)) (fun i c rest hv h => by
    have h1 := dc_enc t i c hv rest h
    have h2 := lenB (Utf8.encode (c : Int))
    revert h1 h2
    generalize Utf8.encode (c : Int) = e
    intro h1 h2
    rw [← h2] at h1
    exact h1) l i hv h
theorem runesBytes_data (l : List Int) : (runesBytes l).data.toList = (l.map fun c => (Utf8.encode c).data.toList).flatten := by
  have go : ∀ (l : List Int) (a : ByteArray), (l.foldl (fun r n => r ++ Utf8.encode n) a).data.toList = a.data.toList ++ (l.map fun c => (Utf8.encode c).data.toList).flatten := by
    intro l
    induction l with
    | nil => intro a; simp
    | cons x l ih => intro a; rw [List.foldl_cons, ih]; simp
  unfold runesBytes
  rw [go]
  rfl
theorem dc_okRune (s : ByteArray) (i : Nat) : okRune ((dc s i).1 : Int) := by
  unfold okRune
  rcases dc_form s i with h | h | h | h | h <;> first | (rw [h]; exact ⟨by decide, by decide, by decide⟩) | omega
/-- Back, read: the same runes, none broken. -/
theorem back_read (s : ByteArray) : runesOf (runesBytes (runesOf s)) = runesOf s ∧ ∀ j ∈ pos (runesBytes (runesOf s)) 0, dc (runesBytes (runesOf s)) j ≠ bad := by
  have h := pos_enc (runesBytes (runesOf s)) ((pos s 0).map fun j => (dc s j).1) 0 (fun c hc => by
    obtain ⟨j, _, rfl⟩ := List.mem_map.1 hc
    exact dc_okRune s j) (by
    rw [List.drop_zero, runesBytes_data]
    simp [runesOf, List.map_map, Function.comp_def])
  refine ⟨?_, h.2⟩
  have := congrArg (List.map (fun n : Nat => (n : Int))) h.1
  simpa [runesOf, List.map_map, Function.comp_def] using this

/-! ### RunesBack -/
theorem runesBytes_size (l : List Int) : (runesBytes l).size ≤ 4 * l.length := by
  have h := foldl_size_le l ByteArray.empty
  have e : ByteArray.empty.size = 0 := rfl
  unfold runesBytes
  omega
theorem Part_ok (s : ByteArray) (lo hi : Int) (hs : (s.size : Int) ≤ 65536) (h0 : 0 ≤ lo) (h1 : lo ≤ hi) (h2 : hi ≤ ((pieces s).length : Int)) : runes_Part.f s lo hi = some (s.extract (place s lo).toNat (place s hi).toNat, 0) := by
  unfold runes_Part.f
  rw [if_neg (by omega), if_neg (by omega)]
theorem place_zero (s : ByteArray) : place s 0 = 0 := by
  by_cases h : 0 < s.size
  · have := place_at s 0 0 (by rw [pos_step s 0 h]; rfl)
    exact this
  · unfold place
    have : (pieces s).length = 0 := by have := pieces_length s; omega
    rw [if_pos (by omega)]
    omega
theorem place_all (s : ByteArray) : place s ((pieces s).length : Int) = s.size := by unfold place; rw [if_pos rfl]
/-- What comes behind the loop. -/
theorem Back_end (s : ByteArray) (z : Int) (hs : (s.size : Int) ≤ 5000) (k : Nat) : cognatelaw01_RunesBack.l0 (k + 2) s z true (pieces s) s.size (runesOf s) ((pieces s).length : Int) = some true := by
  have hl := pieces_length s
  have hm : wrap64 (((pieces s).length : Int) + 1) = ((pieces s).length : Int) + 1 := w64 (by omega) (by omega)
  obtain ⟨L, hL⟩ : ∃ L : Int, L = ((pieces s).length : Int) := ⟨_, rfl⟩
  rw [cognatelaw01_RunesBack.l0, if_neg (by omega), hm, if_neg (by omega), ← hL]
  have q1 : -(L + 1) < Int.tmod z (L + 1) ∧ Int.tmod z (L + 1) < L + 1 := by
    have a := Int.tmod_lt_of_pos z (show 0 < L + 1 by omega)
    have b := Int.tmod_lt_of_pos (-z) (show 0 < L + 1 by omega)
    rw [Int.neg_tmod] at b
    exact ⟨by omega, a⟩
  generalize Int.tmod z (L + 1) = y at q1 ⊢
  rw [w64 (n := y + (L + 1)) (by omega) (by omega)]
  have q2 : 0 ≤ Int.tmod (y + (L + 1)) (L + 1) ∧ Int.tmod (y + (L + 1)) (L + 1) ≤ L := by
    have a := Int.tmod_lt_of_pos (y + (L + 1)) (show 0 < L + 1 by omega)
    have b := Int.tmod_nonneg (L + 1) (show 0 ≤ y + (L + 1) by omega)
    omega
  generalize Int.tmod (y + (L + 1)) (L + 1) = f at q2 ⊢
  obtain ⟨b1, b2⟩ := back_read s
  have ht : (runesBytes (runesOf s)).size ≤ 65536 := by
    have h1 := runesBytes_size (runesOf s)
    have h2 := runesOf_length s
    omega
  have hbk : ∀ t : ByteArray, t.size ≤ 65536 → runes_Back.f t = some (runesBytes (runesOf t), 0) := fun t h => by unfold runes_Back.f; rw [if_neg (by omega)]
  have hlen : (pieces (runesBytes (runesOf s))).length = (pieces s).length := by
    have := congrArg List.length b1
    simpa [runesOf, pieces] using this
  have hbr : runes_Broken.f (runesBytes (runesOf s)) = some (-1, 0) := by
    unfold runes_Broken.f
    rw [if_neg (by omega)]
    unfold brokenAt
    rw [List.find?_eq_none.2 (fun j hj => by simpa using b2 j hj)]
  have ht' : ((runesBytes (runesOf s)).size : Int) ≤ 65536 := by omega
  rw [Part_ok s 0 f (by omega) (by omega) q2.1 (by omega), Option.bind_some, Part_ok s f L (by omega) q2.1 q2.2 (by omega), Option.bind_some, hbk s (by omega), Option.bind_some, Len_pieces _ ht', Option.bind_some]
  have hp := place_bounds s 0 f (by omega) q2.1 (by omega)
  have hp2 := place_bounds s f L q2.1 q2.2 (by omega)
  have hab : s.extract (place s 0).toNat (place s f).toNat ++ s.extract (place s f).toNat (place s L).toNat = s := by
    rw [place_zero, hL, place_all]
    apply ByteArray.ext
    simp only [ByteArray.data_append, ByteArray.data_extract]
    rw [Array.extract_append_extract]
    simp
    rw [show max (place s f).toNat s.size = s.data.size from by rw [Nat.max_eq_right (by omega)]; rfl]
    simp
  simp only [if_true]
  rw [if_pos (by
    have := congrArg ByteArray.size hab
    rw [ByteArray.size_append] at this
    omega), hab, if_pos rfl, hlen, if_pos (by omega)]
  have htx : runes_Text.f (runesOf s) = some (runesBytes (runesOf s)) := rfl
  rw [htx, Option.bind_some, cognatelaw01_RunesBack.j2, if_neg (by simp), hbr, Option.bind_some, hbk _ ht, Option.bind_some, b1]
  simp
/-- The loop over the pieces. -/
theorem Back_round (s : ByteArray) (z : Int) (hs : (s.size : Int) ≤ 5000) (i : Nat) : ∀ (n k : Nat) (acc : List Int), i ≤ s.size → (pos s 0).drop n = pos s i → n ≤ (pos s 0).length → acc ++ (pos s i).map (fun j => ((dc s j).1 : Int)) = runesOf s → acc.length ≤ 5000 → 2 * (s.size - i) + 2 ≤ k →
    cognatelaw01_RunesBack.l0 k s z true (pieces s) i acc n = some true := by
  have hl := pieces_length s
  have hn' : (pieces s).length = (pos s 0).length := by simp [pieces]
  refine by_pieces s (P := fun i => ∀ (n k : Nat) (acc : List Int), i ≤ s.size → (pos s 0).drop n = pos s i → n ≤ (pos s 0).length → acc ++ (pos s i).map (fun j => ((dc s j).1 : Int)) = runesOf s → acc.length ≤ 5000 → 2 * (s.size - i) + 2 ≤ k →
    cognatelaw01_RunesBack.l0 k s z true (pieces s) i acc n = some true) ?_ ?_ i
  · intro i h n k acc hi hd hn ha hc hk
    rw [pos_end s i h] at hd ha
    have hn2 : n = (pieces s).length := by
      have := congrArg List.length hd
      simp at this
      omega
    obtain ⟨k, rfl⟩ : ∃ m, k = m + 2 := ⟨k - 2, by omega⟩
    obtain rfl : i = s.size := by omega
    rw [List.map_nil, List.append_nil] at ha
    rw [ha, hn2]
    exact Back_end s z hs k
  · intro i hi ih n k acc _ hd hn ha hc hk
    have hb := dc_bounds s i hi
    rw [pos_step s i hi] at hd ha
    obtain ⟨k, rfl⟩ : ∃ m, k = m + 2 := ⟨k - 2, by omega⟩
    have hlt : n < (pos s 0).length := by
      have := congrArg List.length hd
      simp at this
      omega
    have hx : (pieces s)[n]? = some (piece s i) := by
      have : (pos s 0)[n]? = some i := by
        have := congrArg (fun l => l[0]?) hd
        simpa using this
      simp [pieces, this]
    have hd2 : (pos s 0).drop (n + 1) = pos s (i + (dc s i).2) := by
      have := congrArg List.tail hd
      simpa using this
    rw [cognatelaw01_RunesBack.l0, if_pos (by omega), if_pos (by omega), rd_at _ n _ hx]
    rw [if_pos (show (piece s i).f1 = (i : Int) from rfl), if_neg (show ¬ (piece s i).f2 < 1 by show ¬ ((dc s i).2 : Int) < 1; omega), show (piece s i).f0 = ((dc s i).1 : Int) from rfl, show (piece s i).f1 = (i : Int) from rfl, show (piece s i).f2 = ((dc s i).2 : Int) from rfl, show (piece s i).f3 = decide (dc s i = bad) from rfl, w64 (n := (i : Int) + ((dc s i).2 : Int)) (by omega) (by omega), decide_eq_false (by omega), cognatelaw01_RunesBack.j1, if_neg (by simp), if_pos (by omega), if_pos (by omega), Int.toNat_natCast, go_tail s i hi, Option.bind_some]
    simp only [if_true]
    have step : cognatelaw01_RunesBack.l0 k s z true (pieces s) (((i + (dc s i).2 : Nat)) : Int) (acc ++ [((dc s i).1 : Int)]) ((n + 1 : Nat) : Int) = some true :=
      ih (n + 1) k _ (by omega) hd2 (by omega) (by rw [List.append_assoc]; exact ha) (by
        have h1 := congrArg List.length ha
        have h2 := runesOf_length s
        simp only [List.length_append, List.length_map, List.length_cons, List.length_nil] at h1 ⊢
        omega) (by omega)
    rw [w64 (n := (i : Int) + ((dc s i).2 : Int)) (by omega) (by omega), w64 (n := (n : Int) + 1) (by omega) (by omega)]
    by_cases e : ((dc s i).1 : Int) = 65533
    · rw [if_pos e, if_neg (by
        by_cases e2 : (dc s i).2 = 1
        · rw [decide_eq_true ((bad_iff s i hi).2 ⟨by omega, e2⟩)]; simp; omega
        · rw [decide_eq_false (fun h => e2 ((bad_iff s i hi).1 h).2)]; simp; omega), if_pos (by omega)]
      exact step
    · rw [if_neg e, if_neg (by
        rw [decide_eq_false (fun h => e (by have := ((bad_iff s i hi).1 h).1; omega))]; simp), if_pos (by omega)]
      exact step
/-- RunesBack's pure statement. -/
theorem RunesBack_pure : cognatelaw01_RunesBack.Pure := by
  intro s z hs _
  refine ⟨2 * s.size + 20, ?_⟩
  unfold cognatelaw01_RunesBack.f
  rw [alive_eq _ (by omega), Option.bind_some]
  by_cases h : (s.size : Int) > 5000
  · rw [if_pos h]
  · rw [if_neg h]
    have hp : runes_Pieces.f s = some (pieces s, 0) := by unfold runes_Pieces.f; rw [if_neg (by omega)]
    rw [hp, Option.bind_some, if_pos rfl]
    exact Back_round s z (by omega) 0 0 _ [] (by omega) rfl (by omega) rfl (by simp) (by omega)
end Go.Proofs.YtglaagoblcpggaaDoor.R
end

section
set_option linter.unusedVariables false
set_option linter.unusedSimpArgs false
namespace Go.Proofs.YtglaagoblcpggaaDoor.R
open Go.RowKit Go.Proofs.YtglaagoblcpggaaDoorW.PrintWords

/-- A digit as a byte. -/
def dg (k : Nat) : UInt8 := UInt8.ofNat (hexd k).toNat
set_option maxRecDepth 100000 in
theorem dg_facts : ∀ k : Nat, k < 16 → isHexB (dg k) = true ∧ hexv (dg k) = k ∧ (8 ≤ k → 56 ≤ (dg k).toNat) ∧ 48 ≤ (dg k).toNat ∧ (dg k).toNat ≤ 102 ∧ ((dg k).toNat = 48 → k = 0) := by decide
def hexL : Nat → Nat → List UInt8
  | 0, _ => []
  | f + 1, u => if u < 16 then [dg u] else hexL f (u / 16) ++ [dg (u % 16)]
theorem hexL_go : ∀ f u, (hexGo f u).map (fun n => UInt8.ofNat n.toNat) = hexL f u
  | 0, _ => rfl
  | f + 1, u => by
    unfold hexGo hexL
    split
    · rfl
    · rw [List.map_append, hexL_go f (u / 16)]
      rfl
theorem hexS_list (u : Nat) : (hexS u).data.toList = hexL 17 u := hexL_go 17 u
theorem hexL_hex : ∀ f u, ∀ c ∈ hexL f u, isHexB c = true
  | 0, _, c, h => by cases h
  | f + 1, u, c, h => by
    unfold hexL at h
    by_cases g : u < 16
    · rw [if_pos g] at h
      obtain rfl : c = dg u := by simpa using h
      exact (dg_facts u g).1
    · rw [if_neg g] at h
      rcases List.mem_append.1 h with h | h
      · exact hexL_hex f _ c h
      · obtain rfl : c = dg (u % 16) := by simpa using h
        exact (dg_facts _ (Nat.mod_lt _ (by omega))).1
theorem hexM_append (M : Nat) : ∀ (l m : List UInt8) (acc n : Nat), hexM M acc l = some n → hexM M acc (l ++ m) = hexM M n m
  | [], m, acc, n, h => by
    have := Option.some.inj h
    rw [this]; rfl
  | c :: l, m, acc, n, h => by
    rw [hexM] at h
    rw [List.cons_append, hexM]
    by_cases g : M < acc * 16 + hexv c
    · rw [if_pos g] at h; cases h
    · rw [if_neg g] at h ⊢
      exact hexM_append M l m _ n h
theorem hexM_hexL (M : Nat) : ∀ f u, u < 16 ^ f → u ≤ M → 1 ≤ f → hexM M 0 (hexL f u) = some u
  | 0, u, h, _, h1 => by omega
  | f + 1, u, h, hM, _ => by
    unfold hexL
    by_cases g : u < 16
    · rw [if_pos g, hexM, (dg_facts u g).2.1, if_neg (by omega), hexM, Nat.zero_mul, Nat.zero_add]
    · have hm : u % 16 < 16 := Nat.mod_lt _ (by omega)
      have hd : u / 16 < 16 ^ f := by
        rw [Nat.pow_succ] at h
        exact Nat.div_lt_of_lt_mul (by rw [Nat.mul_comm]; exact h)
      have h1 : 1 ≤ f := by
        rcases Nat.eq_zero_or_pos f with e | e
        · subst e; simp at h; omega
        · exact e
      rw [if_neg g, hexM_append M _ _ 0 (u / 16) (hexM_hexL M f (u / 16) hd (by omega) h1), hexM, (dg_facts _ hm).2.1, if_neg (by omega), hexM]
      congr 1
      omega
theorem hexL_first : ∀ f u, 1 ≤ f → u < 16 ^ f → ∃ x r, hexL f u = x :: r ∧ (x.toNat = 48 → u = 0 ∧ r = [])
  | 0, u, h, _ => by omega
  | f + 1, u, _, hu => by
    unfold hexL
    by_cases g : u < 16
    · rw [if_pos g]
      exact ⟨dg u, [], rfl, fun h => ⟨(dg_facts u g).2.2.2.2.2 h, rfl⟩⟩
    · rw [if_neg g]
      have hd : u / 16 < 16 ^ f := by
        rw [Nat.pow_succ] at hu
        exact Nat.div_lt_of_lt_mul (by rw [Nat.mul_comm]; exact hu)
      have h1 : 1 ≤ f := by
        rcases Nat.eq_zero_or_pos f with e | e
        · subst e; simp at hu; omega
        · exact e
      obtain ⟨x, r, e, h⟩ := hexL_first f (u / 16) h1 hd
      exact ⟨x, r ++ [dg (u % 16)], by rw [e]; rfl, fun hx => by have := (h hx).1; omega⟩
theorem hexL_range (f u : Nat) : ∀ c ∈ hexL f u, 32 ≤ c.toNat ∧ c.toNat ≤ 126 := by
  intro c hc
  have := hexL_hex f u c hc
  simp only [isHexB, Bool.or_eq_true, Bool.and_eq_true, decide_eq_true_eq] at this
  omega
/-- A byte that is broken: two digits. -/
theorem hexL_byte (b : Nat) (h1 : 128 ≤ b) (h2 : b < 256) : hexL 17 b = [dg (b / 16), dg (b % 16)] := by
  unfold hexL
  rw [if_neg (by omega)]
  unfold hexL
  rw [if_pos (by omega)]
  rfl

theorem pow17 (r : Nat) (h : r ≤ 1114111) : r < 16 ^ 17 := Nat.lt_of_le_of_lt h (by decide)
theorem getL (t : ByteArray) (l : List UInt8) (h : t.data.toList = l) (j : Nat) (x : UInt8) (hj : l[j]? = some x) : t.get! j = x := by
  have := get_drop t 0 j l (by rw [List.drop_zero, h]) x hj
  rwa [Nat.zero_add] at this
theorem sizeL (t : ByteArray) (l : List UInt8) (h : t.data.toList = l) : t.size = l.length := by rw [← h, lenB]
theorem extL (t : ByteArray) (l : List UInt8) (h : t.data.toList = l) (a b : Nat) : (t.extract a b).data.toList = (l.drop a).take (b - a) := by rw [← h, Lib.extract_data]
theorem enc_list (c : Nat) (hv : okRune (c : Int)) : (Utf8.encode (c : Int)).data.toList = Lib.encodeRune (c : Int) := by
  have hv' := hv
  unfold okRune at hv'
  rw [enc_valid c hv]
  unfold Lib.encodeRune Lib.encodeRuneZ
  have tn : ∀ (x : Int) (y : Nat), x = (y : Int) → x.toNat.toUInt8 = UInt8.ofNat y := fun x y h => by subst h; rfl
  by_cases h1 : c < 128
  · rw [if_pos h1, if_pos (show 0 ≤ (c : Int) ∧ (c : Int) ≤ 127 by omega)]
    simp only [List.map_cons, List.map_nil]
    rw [tn _ c rfl]
  · rw [if_neg h1, if_neg (show ¬ (0 ≤ (c : Int) ∧ (c : Int) ≤ 127) by omega)]
    by_cases h2 : c < 2048
    · rw [if_pos h2, if_pos (show 128 ≤ (c : Int) ∧ (c : Int) ≤ 2047 by omega)]
      simp only [List.map_cons, List.map_nil]
      rw [tn _ (192 + c / 64) (by omega), tn _ (128 + c % 64) (by omega)]
    · rw [if_neg h2, if_neg (show ¬ (128 ≤ (c : Int) ∧ (c : Int) ≤ 2047) by omega)]
      by_cases h3 : c < 65536
      · rw [if_pos h3, if_pos (show 2048 ≤ (c : Int) ∧ (c : Int) < 55296 ∨ 57343 < (c : Int) ∧ (c : Int) ≤ 65535 by omega)]
        simp only [List.map_cons, List.map_nil]
        rw [tn _ (224 + c / 4096) (by omega), tn _ (128 + c / 64 % 64) (by omega), tn _ (128 + c % 64) (by omega)]
      · rw [if_neg h3, if_neg (show ¬ (2048 ≤ (c : Int) ∧ (c : Int) < 55296 ∨ 57343 < (c : Int) ∧ (c : Int) ≤ 65535) by omega), if_pos (show 65536 ≤ (c : Int) ∧ (c : Int) ≤ 1114111 by omega)]
        simp only [List.map_cons, List.map_nil]
        rw [tn _ (240 + c / 262144) (by omega), tn _ (128 + c / 4096 % 64) (by omega), tn _ (128 + c / 64 % 64) (by omega), tn _ (128 + c % 64) (by omega)]
theorem six_list (t : ByteArray) (x y : UInt8) (l R : List UInt8) (h : t.data.toList = x :: y :: (l ++ R)) (hl : ∀ c ∈ l, isHexB c = true) : sixteens t = l.length + (R.takeWhile isHexB).length := by
  unfold sixteens
  rw [h]
  show ((l ++ R).takeWhile isHexB).length = _
  have : ∀ (l : List UInt8), (∀ c ∈ l, isHexB c = true) → (l ++ R).takeWhile isHexB = l ++ R.takeWhile isHexB := by
    intro l
    induction l with
    | nil => intro _; rfl
    | cons a l ih =>
      intro h
      rw [List.cons_append, List.takeWhile_cons, if_pos (h a (.head _)), ih (fun c hc => h c (.tail _ hc))]
      rfl
  rw [this l hl, List.length_append]
/-- One byte that is its own sign. -/
theorem thing_of_plain (t : ByteArray) (b : UInt8) (R : List UInt8) (h : t.data.toList = b :: R) (h1 : 32 ≤ b.toNat) (h2 : b.toNat ≤ 126) (h3 : b.toNat ≠ 92) : (thingP t).1.data.toList = [b] ∧ (thingP t).2 = 1 := by
  have g0 := getL t _ h 0 b rfl
  unfold thingP
  rw [g0, if_pos h3, if_neg (by omega)]
  refine ⟨?_, rfl⟩
  show (t.extract 0 1).data.toList = _
  rw [extL t _ h]
  rfl
theorem thing_of_esc (t : ByteArray) (b : UInt8) (R : List UInt8) (h : t.data.toList = 92 :: b :: R) (hb : b.toNat = 34 ∨ b.toNat = 92) : (thingP t).1.data.toList = [b] ∧ (thingP t).2 = 2 := by
  have g0 := getL t _ h 0 92 rfl
  have g1 := getL t _ h 1 b rfl
  have sz := sizeL t _ h
  simp only [List.length_cons] at sz
  unfold thingP
  rw [g0, g1, if_neg (by decide), if_neg (by omega), if_pos hb]
  refine ⟨?_, rfl⟩
  show (t.extract 1 2).data.toList = _
  rw [extL t _ h]
  rfl
theorem thing_of_broken (t : ByteArray) (b : Nat) (hb1 : 128 ≤ b) (hb2 : b < 256) (R : List UInt8) (h : t.data.toList = 92 :: 120 :: (hexL 17 b ++ R)) : (thingP t).1.data.toList = [UInt8.ofNat b] ∧ (thingP t).2 = 4 := by
  rw [hexL_byte b hb1 hb2] at h
  have d1 := dg_facts (b / 16) (by omega)
  have d2 := dg_facts (b % 16) (Nat.mod_lt _ (by omega))
  have g0 := getL t _ h 0 92 rfl
  have g1 := getL t _ h 1 120 rfl
  have g2 := getL t _ h 2 (dg (b / 16)) rfl
  have sz := sizeL t _ h
  have h6 := six_list t 92 120 [dg (b / 16), dg (b % 16)] R h (fun c hc => by
    rcases List.mem_cons.1 hc with rfl | hc
    · exact d1.1
    · obtain rfl : c = dg (b % 16) := by simpa using hc
      exact d2.1)
  simp only [List.length_cons, List.length_append, List.length_nil] at sz h6
  have he : (t.extract 2 4).data.toList = [dg (b / 16), dg (b % 16)] := by rw [extL t _ h]; rfl
  unfold thingP
  rw [g0, g1, g2, if_neg (by decide), if_neg (by omega), if_neg (by decide), if_pos (by decide), if_neg (by have := d1.2.2.1 (by omega); omega), he]
  refine ⟨?_, rfl⟩
  rw [hexM, d1.2.1, if_neg (by omega), hexM, d2.2.1, if_neg (by omega), hexM]
  show [UInt8.ofNat ((0 * 16 + b / 16) * 16 + b % 16)] = _
  rw [show (0 * 16 + b / 16) * 16 + b % 16 = b by omega]
theorem thing_of_rune (t : ByteArray) (r : Nat) (hr : r ≤ 1114111) (hv : Lib.validRune (r : Int) = true) (ha : r < 32 ∨ 126 < r) (R : List UInt8) (h : t.data.toList = 92 :: 117 :: (hexL 17 r ++ 59 :: R)) : (thingP t).1 = Utf8.encode (r : Int) ∧ (thingP t).2 = (hexL 17 r).length + 3 := by
  have g0 := getL t _ h 0 92 rfl
  have g1 := getL t _ h 1 117 rfl
  have sz := sizeL t _ h
  have h6 := six_list t 92 117 (hexL 17 r) (59 :: R) h (hexL_hex 17 r)
  rw [List.takeWhile_cons, if_neg (by decide)] at h6
  simp only [List.length_cons, List.length_append, List.length_nil] at sz h6
  obtain ⟨x, l, hx, hx0⟩ := hexL_first 17 r (by omega) (pow17 _ (by omega))
  have g2 := getL t _ h 2 x (by rw [hx]; rfl)
  have he : (t.extract 2 (2 + sixteens t)).data.toList = hexL 17 r := by
    rw [extL t _ h, Nat.add_sub_cancel_left, h6]
    exact List.take_left' (by omega)
  have ht : (t.extract (2 + sixteens t) t.size).data.toList = 59 :: R := by
    rw [extL t _ h, h6, show 2 + ((hexL 17 r).length + 0) = (hexL 17 r).length + 1 + 1 by omega, List.drop_succ_cons, List.drop_succ_cons, List.drop_left' rfl, List.take_of_length_le (by simp only [List.length_cons]; omega)]
  have hm : (if (t.extract 2 (2 + sixteens t)).size = 0 then none else hexM 4294967295 0 (t.extract 2 (2 + sixteens t)).data.toList) = some r := by
    rw [if_neg (by rw [sizeL _ _ he, hx]; simp), he]
    exact hexM_hexL _ 17 r (pow17 _ (by omega)) (by omega) (by omega)
  unfold thingP
  rw [g0, g1, if_neg (by decide), if_neg (by omega), if_neg (by decide), if_neg (by decide), if_pos (by decide)]
  unfold thingU
  rw [hm]
  simp only
  generalize Utf8.encode (r : Int) = en
  rw [if_neg ?_]
  · exact ⟨rfl, by rw [h6]⟩
  · rintro (a | a | a | a | a)
    · omega
    · rw [hv] at a; cases a
    · omega
    · rw [g2] at a
      have := hx0 a.1
      rw [h6, hx, this.2] at a
      simp at a
    · rw [ht] at a
      simp [Lib.hasPrefix] at a

/-- A byte below 128 is a piece by itself. -/
theorem dc_ascii (s : ByteArray) (i : Nat) (h : (s.get! i).toNat < 128) : dc s i = ((s.get! i).toNat, 1) := by
  rw [dc_N]
  unfold Lib.decodeN
  rw [if_pos h]
theorem dc_not_ascii (s : ByteArray) (i : Nat) (h : (dc s i).1 < 128) : (s.get! i).toNat < 128 := by
  rcases Nat.lt_or_ge (s.get! i).toNat 128 with g | g
  · exact g
  · exfalso
    revert h
    rw [dc_N]
    unfold Lib.decodeN
    rw [if_neg (by omega)]
    repeat' split
    all_goals (simp only; omega)
theorem byte_at (s : ByteArray) (i : Nat) (h : i < s.size) : (s.data.toList.drop i).take 1 = [s.get! i] := by
  have esz : s.size = s.data.size := rfl
  rw [get_of_lt s i h, List.drop_eq_getElem_cons (by rw [Array.length_toList]; omega)]
  show [s.data.toList[i]] = _
  simp [ByteArray.getElem_eq_getElem_data]
/-- WHAT A PIECE SHOWS IS READ AS THE PIECE'S BYTES. -/
theorem thing_shown (s : ByteArray) (i : Nat) (hi : i < s.size) (t : ByteArray) (R : List UInt8) (h : t.data.toList = shownAt s i ++ R) :
    (thingP t).1.data.toList = (s.data.toList.drop i).take (dc s i).2 ∧ (thingP t).2 = (shownAt s i).length ∧ (t.get! 0).toNat ≠ 34 ∧ 1 ≤ (shownAt s i).length ∧ (dc s i).2 ≤ (shownAt s i).length ∧ ∀ x ∈ shownAt s i, 32 ≤ x.toNat ∧ x.toNat ≤ 126 := by
  have hb8 := get_lt s i
  have h1 := byte_at s i hi
  have hbd := dc_bounds s i hi
  unfold shownAt showP at *
  by_cases hbad : dc s i = bad
  · have hb1 : 128 ≤ (s.get! i).toNat := by
      rcases Nat.lt_or_ge (s.get! i).toNat 128 with g | g
      · have := dc_ascii s i g
        rw [hbad] at this
        have := congrArg Prod.fst this
        simp [bad] at this
        omega
      · exact g
    rw [if_pos (by simpa using hbad)] at h ⊢
    have e : (⟨#[92, 120]⟩ ++ hexS (s.get! i).toNat : ByteArray).data.toList = 92 :: 120 :: hexL 17 (s.get! i).toNat := by
      rw [← hexS_list]; simp
    rw [e] at h ⊢
    obtain ⟨k1, k2⟩ := thing_of_broken t (s.get! i).toNat hb1 hb8 R h
    have e2 : (dc s i).2 = 1 := by rw [hbad]; rfl
    have hl := hexL_byte (s.get! i).toNat hb1 hb8
    refine ⟨by rw [k1, e2, h1]; simp, by rw [k2, hl]; rfl, by rw [getL t _ h 0 92 rfl]; decide, by simp, by rw [e2, hl]; simp, fun x hx => ?_⟩
    rcases List.mem_cons.1 hx with rfl | hx
    · decide
    · rcases List.mem_cons.1 hx with rfl | hx
      · decide
      · exact hexL_range _ _ x hx
  · rw [if_neg (by simpa using hbad)] at h ⊢
    by_cases c1 : (s.get! i).toNat = 34
    · rw [if_pos c1] at h ⊢
      have e2 : (dc s i).2 = 1 := by rw [dc_ascii s i (by omega)]
      have eb : s.get! i = 34 := UInt8.toNat_inj.1 c1
      have h' : t.data.toList = 92 :: 34 :: R := h
      obtain ⟨k1, k2⟩ := thing_of_esc t 34 R h' (.inl rfl)
      refine ⟨by rw [k1, e2, h1, eb], k2, by rw [getL t _ h' 0 92 rfl]; decide, by decide, by rw [e2]; decide, by decide⟩
    · rw [if_neg c1] at h ⊢
      by_cases c2 : (s.get! i).toNat = 92
      · rw [if_pos c2] at h ⊢
        have e2 : (dc s i).2 = 1 := by rw [dc_ascii s i (by omega)]
        have eb : s.get! i = 92 := UInt8.toNat_inj.1 c2
        have h' : t.data.toList = 92 :: 92 :: R := h
        obtain ⟨k1, k2⟩ := thing_of_esc t 92 R h' (.inr rfl)
        refine ⟨by rw [k1, e2, h1, eb], k2, by rw [getL t _ h' 0 92 rfl]; decide, by decide, by rw [e2]; decide, by decide⟩
      · rw [if_neg c2] at h ⊢
        by_cases c3 : 32 ≤ (s.get! i).toNat ∧ (s.get! i).toNat < 127
        · rw [if_pos c3] at h ⊢
          have e2 : (dc s i).2 = 1 := by rw [dc_ascii s i (by omega)]
          have eb : (s.get! i).toNat.toUInt8 = s.get! i := by simp
          rw [eb] at h ⊢
          have h' : t.data.toList = s.get! i :: R := h
          obtain ⟨k1, k2⟩ := thing_of_plain t (s.get! i) R h' c3.1 (by omega) c2
          refine ⟨by rw [k1, e2, h1], k2, by rw [getL t _ h' 0 _ rfl]; exact c1, Nat.le_refl 1, by rw [e2]; exact Nat.le_refl 1, fun x hx => ?_⟩
          obtain rfl : x = s.get! i := by simpa using hx
          omega
        · rw [if_neg c3] at h ⊢
          have hr := dc_okRune s i
          have hr' := hr
          unfold okRune at hr'
          have e : (⟨#[92, 117]⟩ ++ hexS (dc s i).1 ++ ⟨#[59]⟩ : ByteArray).data.toList = 92 :: 117 :: (hexL 17 (dc s i).1 ++ [59]) := by
            rw [← hexS_list]; simp
          rw [e] at h ⊢
          have h' : t.data.toList = 92 :: 117 :: (hexL 17 (dc s i).1 ++ 59 :: R) := by rw [h]; simp
          have hv : Lib.validRune (((dc s i).1 : Nat) : Int) = true := by
            unfold Lib.validRune
            exact decide_eq_true (by omega)
          have ha : (dc s i).1 < 32 ∨ 126 < (dc s i).1 := by
            rcases Nat.lt_or_ge (dc s i).1 128 with g | g
            · have g2 := dc_not_ascii s i g
              have := congrArg Prod.fst (dc_ascii s i g2)
              simp only at this
              omega
            · omega
          obtain ⟨k1, k2⟩ := thing_of_rune t (dc s i).1 (by omega) hv ha R h'
          have hlen : (92 :: 117 :: (hexL 17 (dc s i).1 ++ [59]) : List UInt8).length = (hexL 17 (dc s i).1).length + 3 := by simp
          obtain ⟨x, l, hx, _⟩ := hexL_first 17 (dc s i).1 (by omega) (pow17 _ (by omega))
          refine ⟨by rw [k1, enc_list _ hr, dc_take s i hi hbad], by rw [k2, hlen], by rw [getL t _ h' 0 92 rfl]; decide, by rw [hlen]; omega, by rw [hlen, hx]; simp only [List.length_cons]; omega, fun x hx => ?_⟩
          rcases List.mem_cons.1 hx with rfl | hx
          · decide
          · rcases List.mem_cons.1 hx with rfl | hx
            · decide
            · rcases List.mem_append.1 hx with hx | hx
              · exact hexL_range _ _ x hx
              · obtain rfl : x = 59 := by simpa using hx
                decide

theorem shownFrom_len (s : ByteArray) (i : Nat) : s.size - i ≤ (shownFrom s i).length := by
  refine by_pieces s (P := fun i => s.size - i ≤ (shownFrom s i).length) (fun i h => by omega) (fun i h ih => ?_) i
  obtain ⟨_, _, _, _, h5, _⟩ := thing_shown s i h ⟨(shownAt s i ++ []).toArray⟩ [] (by simp)
  rw [shownFrom_step s i h, List.length_append]
  omega
theorem shownFrom_range (s : ByteArray) (i : Nat) : ∀ x ∈ shownFrom s i, 32 ≤ x.toNat ∧ x.toNat ≤ 126 := by
  refine by_pieces s (P := fun i => ∀ x ∈ shownFrom s i, 32 ≤ x.toNat ∧ x.toNat ≤ 126) (fun i h x hx => by rw [shownFrom_end s i (by omega)] at hx; cases hx) (fun i h ih x hx => ?_) i
  rw [shownFrom_step s i h] at hx
  rcases List.mem_append.1 hx with hx | hx
  · exact (thing_shown s i h ⟨(shownAt s i ++ []).toArray⟩ [] (by simp)).2.2.2.2.2 x hx
  · exact ih x hx
/-- The loop of Plain over a quoted text. -/
theorem plainLoop_quoted (s q : ByteArray) (i : Nat) : ∀ (p f : Nat), i ≤ s.size → q.data.toList.drop p = shownFrom s i ++ [34] → q.size - p < f → plainLoop f q p (s.data.toList.take i) = (false, q.size - 1, s.data.toList) := by
  have esz : s.data.toList.length = s.size := Array.length_toList
  have eqz : q.data.toList.length = q.size := Array.length_toList
  refine by_pieces s (P := fun i => ∀ (p f : Nat), i ≤ s.size → q.data.toList.drop p = shownFrom s i ++ [34] → q.size - p < f → plainLoop f q p (s.data.toList.take i) = (false, q.size - 1, s.data.toList)) ?_ ?_ i
  · intro i h p f hi hq hf
    obtain ⟨f, rfl⟩ : ∃ g, f = g + 1 := ⟨f - 1, by omega⟩
    rw [shownFrom_end s i (by omega), List.nil_append] at hq
    have hl := congrArg List.length hq
    rw [List.length_drop, eqz] at hl
    simp only [List.length_cons, List.length_nil] at hl
    have hg := get_drop q p 0 _ hq 34 rfl
    rw [Nat.add_zero] at hg
    rw [plainLoop, if_neg (by rw [hg]; intro h; exact h.2 rfl), List.take_of_length_le (by omega), show p = q.size - 1 by omega]
  · intro i hi ih p f _ hq hf
    obtain ⟨f, rfl⟩ : ∃ g, f = g + 1 := ⟨f - 1, by omega⟩
    have hb := dc_bounds s i hi
    rw [shownFrom_step s i hi, List.append_assoc] at hq
    have ht : (q.extract p q.size).data.toList = shownAt s i ++ (shownFrom s (i + (dc s i).2) ++ [34]) := by rw [tail_list, hq]
    obtain ⟨k1, k2, k3, k4, k5, _⟩ := thing_shown s i hi (q.extract p q.size) _ ht
    have hl := congrArg List.length hq
    rw [List.length_drop, eqz] at hl
    simp only [List.length_append, List.length_cons, List.length_nil] at hl
    have hg : q.get! p = (q.extract p q.size).get! 0 := by
      have := get_tail q p 0 (by omega)
      rw [Nat.add_zero] at this
      exact this.symm
    rw [plainLoop, if_pos ⟨by omega, by rw [hg]; exact k3⟩, if_neg (by omega), k1, k2]
    have hacc : s.data.toList.take i ++ (s.data.toList.drop i).take (dc s i).2 = s.data.toList.take (i + (dc s i).2) := by rw [List.take_add]
    rw [hacc]
    refine ih _ f (by omega) ?_ (by omega)
    rw [← List.drop_drop, hq]
    exact List.drop_left' rfl
theorem Plain_of_Quote (s q : ByteArray) (hs : s.size ≤ 5000) (h : runes_quote.f s = some q) : runes_Plain.f q = some (s, 0, 0) ∧ s.size + 2 ≤ q.size ∧ q.size ≤ 200000 ∧ ∀ x ∈ q.data.toList, 32 ≤ x.toNat ∧ x.toNat ≤ 126 := by
  have h0 := h
  unfold runes_quote.f at h
  rw [if_pos (by omega)] at h
  have hq : q.data.toList = 34 :: (shownFrom s 0 ++ [34]) := by rw [← Option.some.inj h]
  have sz := sizeL q _ hq
  have l1 := shownFrom_len s 0
  have l2 := shownFrom_length s 0
  have l3 := pos_length s 0 (Nat.zero_le _)
  simp only [List.length_cons, List.length_append, List.length_nil] at sz
  refine ⟨?_, by omega, by omega, fun x hx => ?_⟩
  · unfold runes_Plain.f
    rw [if_neg (by omega), if_neg (by rw [hq]; simp [Lib.hasPrefix])]
    have hloop := plainLoop_quoted s q 0 1 (q.size + 1) (Nat.zero_le _) (by rw [hq]; rfl) (by omega)
    rw [List.take_zero] at hloop
    have esz : s.data.toList.length = s.size := Array.length_toList
    have es : (⟨s.data.toList.toArray⟩ : ByteArray) = s := rfl
    rw [hloop]
    unfold plainEnd
    rw [if_neg (by simp), if_neg (by simp only; omega), if_neg (by simp only; omega), if_neg (by simp only; omega)]
    simp only
    rw [es, if_pos h0]
  · rw [hq] at hx
    rcases List.mem_cons.1 hx with rfl | hx
    · decide
    · rcases List.mem_append.1 hx with hx | hx
      · exact shownFrom_range s 0 x hx
      · obtain rfl : x = 34 := by simpa using hx
        decide

/-! ### RunesPlain -/
theorem thingP_le (t : ByteArray) (h : 1 ≤ t.size) : (thingP t).2 ≤ t.size := by
  have h6 : sixteens t + 2 ≤ t.size ∨ sixteens t = 0 := by
    unfold sixteens
    have h1 : ((t.data.toList.drop 2).takeWhile isHexB).length ≤ (t.data.toList.drop 2).length := (List.takeWhile_prefix isHexB).length_le
    have h2 : t.data.toList.length = t.size := Array.length_toList
    rw [List.length_drop] at h1
    omega
  unfold thingP
  by_cases c0 : (t.get! 0).toNat ≠ 92
  · rw [if_pos c0]
    by_cases c1 : (t.get! 0).toNat < 32 ∨ 126 < (t.get! 0).toNat
    · rw [if_pos c1]; exact Nat.zero_le _
    · rw [if_neg c1]; exact h
  · rw [if_neg c0]
    by_cases c1 : t.size < 2
    · rw [if_pos c1]; exact Nat.zero_le _
    · rw [if_neg c1]
      by_cases c2 : (t.get! 1).toNat = 34 ∨ (t.get! 1).toNat = 92
      · rw [if_pos c2]; exact (show 2 ≤ t.size by omega)
      · rw [if_neg c2]
        by_cases c3 : (t.get! 1).toNat = 120
        · rw [if_pos c3]
          by_cases c4 : sixteens t < 2 ∨ (t.get! 2).toNat < 56
          · rw [if_pos c4]; exact Nat.zero_le _
          · rw [if_neg c4]; exact (show 4 ≤ t.size by omega)
        · rw [if_neg c3]
          by_cases c4 : (t.get! 1).toNat = 117
          · rw [if_pos c4]
            unfold thingU
            generalize (if (t.extract 2 (2 + sixteens t)).size = 0 then none else hexM 4294967295 0 (t.extract 2 (2 + sixteens t)).data.toList) = o
            cases o with
            | none => exact Nat.zero_le _
            | some n =>
              simp only
              by_cases c5 : 1114111 < n ∨ Lib.validRune (n : Int) = false ∨ (32 ≤ n ∧ n ≤ 126) ∨ ((t.get! 2).toNat = 48 ∧ 1 < sixteens t) ∨ Lib.hasPrefix (t.extract (2 + sixteens t) t.size).data.toList [59] = false
              · rw [if_pos c5]; exact Nat.zero_le _
              · rw [if_neg c5]
                have c6 : ¬ Lib.hasPrefix (t.extract (2 + sixteens t) t.size).data.toList [59] = false := fun h => c5 (.inr (.inr (.inr (.inr h))))
                have : 2 + sixteens t < t.size := by
                  rcases Nat.lt_or_ge (2 + sixteens t) t.size with g | g
                  · exact g
                  · exfalso
                    apply c6
                    have e : (t.extract (2 + sixteens t) t.size).data.toList = [] := List.eq_nil_of_length_eq_zero (by rw [lenB, ByteArray.size_extract]; omega)
                    rw [e]
                    rfl
                exact (show sixteens t + 3 ≤ t.size by omega)
          · rw [if_neg c4]; exact Nat.zero_le _
theorem plainLoop_place (q : ByteArray) : ∀ (f i : Nat) (acc : List UInt8), i ≤ q.size → (plainLoop f q i acc).2.1 ≤ q.size
  | 0, i, acc, h => h
  | f + 1, i, acc, h => by
    rw [plainLoop]
    by_cases c : i < q.size ∧ (q.get! i).toNat ≠ 34
    · rw [if_pos c]
      by_cases c2 : (thingP (q.extract i q.size)).2 = 0
      · rw [if_pos c2]; exact h
      · rw [if_neg c2]
        have e := sz_tail q i
        have := thingP_le (q.extract i q.size) (by omega)
        exact plainLoop_place q f _ _ (by omega)
    · rw [if_neg c]; exact h
/-- What Plain answers of any text of at most 5000 bytes. -/
theorem Plain_any (q : ByteArray) (hq : q.size ≤ 5000) : ∃ v p g, runes_Plain.f q = some (v, p, g) ∧ (g = 0 → p = 0 ∧ v.size ≤ 65536 ∧ runes_quote.f v = some q) ∧ (g ≠ 0 → v = ⟨#[]⟩ ∧ 0 ≤ p ∧ p ≤ (q.size : Int)) := by
  unfold runes_Plain.f
  rw [if_neg (by omega)]
  by_cases c : Lib.hasPrefix q.data.toList [34] = false
  · rw [if_pos c]
    exact ⟨_, _, _, rfl, fun h => by omega, fun _ => ⟨rfl, by omega, by omega⟩⟩
  · rw [if_neg c]
    have h1 : 1 ≤ q.size := by
      rcases Nat.eq_zero_or_pos q.size with g | g
      · exfalso
        apply c
        have e : q.data.toList = [] := List.eq_nil_of_length_eq_zero (by rw [lenB]; exact g)
        rw [e]
        rfl
      · exact g
    have hp := plainLoop_place q (q.size + 1) 1 [] h1
    generalize plainLoop (q.size + 1) q 1 [] = r at hp
    unfold plainEnd
    by_cases d1 : r.1 = true
    · rw [if_pos d1]; exact ⟨_, _, _, rfl, fun h => by omega, fun _ => ⟨rfl, by omega, by omega⟩⟩
    · rw [if_neg d1]
      by_cases d2 : q.size ≤ r.2.1
      · rw [if_pos d2]; exact ⟨_, _, _, rfl, fun h => by omega, fun _ => ⟨rfl, by omega, by omega⟩⟩
      · rw [if_neg d2]
        by_cases d3 : r.2.1 + 1 < q.size
        · rw [if_pos d3]; exact ⟨_, _, _, rfl, fun h => by omega, fun _ => ⟨rfl, by omega, by omega⟩⟩
        · rw [if_neg d3]
          by_cases d4 : 65536 < r.2.2.length
          · rw [if_pos d4]; exact ⟨_, _, _, rfl, fun h => by omega, fun _ => ⟨rfl, by omega, by omega⟩⟩
          · rw [if_neg d4]
            by_cases d5 : runes_quote.f ⟨r.2.2.toArray⟩ = some q
            · rw [if_pos d5]
              exact ⟨_, _, _, rfl, fun _ => ⟨rfl, by rw [show (⟨r.2.2.toArray⟩ : ByteArray).size = r.2.2.length from rfl]; omega, d5⟩, fun h => absurd rfl h⟩
            · rw [if_neg d5]; exact ⟨_, _, _, rfl, fun h => by omega, fun _ => ⟨rfl, by omega, by omega⟩⟩
theorem Quote_eq (s q : ByteArray) (hs : s.size ≤ 65536) (h : runes_quote.f s = some q) : runes_Quote.f s = some (q, 0) := by
  unfold runes_Quote.f runes_long.f
  rw [if_neg (by omega), Option.bind_some, if_pos rfl, h]
  rfl
/-- The loop over the quoted text, and what comes behind it. -/
theorem Plain_loop (x q : ByteArray) (hx : x.size ≤ 5000) (hq : q.size ≤ 200000) (hr : ∀ c ∈ q.data.toList, 32 ≤ c.toNat ∧ c.toNat ≤ 126) (d : Nat) : ∀ (n k : Nat), q.size - n = d → n ≤ q.size → d + 1 ≤ k → cognatelaw01_RunesPlain.l0 k x true q n = some true := by
  induction d with
  | zero =>
    intro n k hd h1 hk
    obtain ⟨k, rfl⟩ : ∃ m, k = m + 1 := ⟨k - 1, by omega⟩
    obtain ⟨v, p, g, e, h0, h1'⟩ := Plain_any x hx
    rw [cognatelaw01_RunesPlain.l0, if_neg (by omega), e, Option.bind_some]
    simp only
    by_cases hg : g = 0
    · obtain ⟨rfl, hv, hvq⟩ := h0 hg
      rw [if_pos hg, Quote_eq v x hv hvq, Option.bind_some, if_pos rfl]
      simp
    · obtain ⟨rfl, hp0, hp1⟩ := h1' hg
      rw [if_neg hg, if_pos trivial, if_pos (by rw [Lib.toList_data]), if_pos (by omega), decide_eq_true hp1]
  | succ d ih =>
    intro n k hd h1 hk
    obtain ⟨k, rfl⟩ : ∃ m, k = m + 1 := ⟨k - 1, by omega⟩
    have hb := hr (q.get! n) (by
      rw [get_of_lt q n (by omega)]
      rw [ByteArray.getElem_eq_getElem_data, ← Array.getElem_toList]
      exact List.getElem_mem _)
    rw [cognatelaw01_RunesPlain.l0, if_pos (by omega), if_pos (by omega), bt_get q n (by omega), if_neg (by omega), if_neg (by omega), w64 (by omega) (by omega)]
    exact ih (n + 1) k (by omega) (by omega) (by omega)
theorem RunesPlain_pure : cognatelaw01_RunesPlain.Pure := by
  intro s x _ _
  refine ⟨200020, ?_⟩
  have skip : cognatelaw01_RunesPlain.j0 200020 s x true true = some true := by rw [show 200020 = 200019 + 1 from rfl, cognatelaw01_RunesPlain.j0, if_pos rfl]
  unfold cognatelaw01_RunesPlain.f
  rw [alive_eq _ (by omega), Option.bind_some]
  by_cases c1 : (s.size : Int) > 5000
  · rw [if_pos c1, skip]
  · rw [if_neg c1]
    by_cases c2 : (x.size : Int) > 5000
    · rw [decide_eq_true c2, skip]
    · rw [decide_eq_false c2]
      obtain ⟨q, hq⟩ : ∃ q, runes_quote.f s = some q := by unfold runes_quote.f; rw [if_pos (by omega)]; exact ⟨_, rfl⟩
      obtain ⟨p1, p2, p3, p4⟩ := Plain_of_Quote s q (by omega) hq
      rw [show 200020 = 200018 + 1 + 1 from rfl, cognatelaw01_RunesPlain.j0, if_neg (by simp), Quote_eq s q (by omega) hq, Option.bind_some]
      simp only
      rw [p1, Option.bind_some]
      simp only [if_true]
      rw [w64 (by omega) (by omega), decide_eq_false (by omega), cognatelaw01_RunesPlain.j1, if_neg (by simp)]
      exact Plain_loop x q (by omega) p3 p4 q.size 0 _ (by omega) (by omega) (by omega)
end Go.Proofs.YtglaagoblcpggaaDoor.R
end

section
set_option linter.unusedVariables false
namespace Go.Proofs.YtglaagoblcpggaaDoor.R
open Go.RowKit
theorem iface_of_reads {W : World} {n : String} {g : Nat} {name : String} {d : DataW Unit} (hg : Tryd.prog.globalNamed n = some g) (ht : (Tryd.prog.globals[g]?).map (·.type) = some 63) (h : Lib.VarReads Tryd.prog W n (.iface name d)) : ∃ te pe, W.cell? ⟨g, 0, none⟩ = some (.iface te pe) := by
  obtain ⟨g', t, cs, fuel, p, hg', hty, hvar, hd⟩ := h
  obtain rfl := Option.some.inj (hg.symm.trans hg')
  obtain rfl := Option.some.inj (ht.symm.trans hty)
  obtain ⟨_, u, v, hcs, _⟩ := iface_of_trod Tryd.underlying63 hd
  have := World.var?_cell hg hvar 0
  rw [← Array.getElem?_toList, hcs] at this
  exact ⟨u, v, this⟩
theorem tabE_ofE {W : World} (h : laidMetH Tryd.prog laidE W) : TabE W := by
  rw [MakeChecks.laidMetH_plain _ _ _ (by kernel_rfl)] at h
  exact ⟨iface_of_reads (by kernel_rfl) (by kernel_rfl) (Lib.laidMet.reads h (n := "strconv.ErrSyntax") (d := Rows.laid_strconv_ErrSyntax) (by simp)), iface_of_reads (by kernel_rfl) (by kernel_rfl) (Lib.laidMet.reads h (n := "strconv.ErrRange") (d := Rows.laid_strconv_ErrRange) (by simp))⟩
end Go.Proofs.YtglaagoblcpggaaDoor.R
end

section
set_option linter.unusedVariables false
namespace Go.Proofs.YtglaagoblcpggaaDoor.runesPlain
open Go.ChangeShapes Go.WideShapes Go.ChangeAt Go.RowKit
open Go.ChangeMaps (open_string shut_string)
open Go.Proofs.YtglaagoblcpggaaDoor.R

set_option maxRecDepth 100000 in
theorem lifted (os : Os) (started : os.Started) (H : Type) (enc : TypeId × Value → H) :
    ReturnsInHanded {} Tryd.checked os 8 .any (fun w args => (Rows.runesPlainSpec.pre enc Tryd.prog Tryd.f8 [] false w args ∧ laidMetH Tryd.prog laidE w) ∧ sizedMet enc Tryd.prog Tryd.f8 (OpenSpec.ofChange Rows.runesPlainSpec) false w args) (Rows.runesPlainSpec.post enc Tryd.prog Tryd.f8 false true false false) := by
  refine returnsInHanded_of_change_and (C := Tryd.checked) (X := fun w _ => laidMetH Tryd.prog laidE w) (fun _ _ _ hh h => h.of_heap hh) own started (by kernel_rfl) Tryd.func8
    (ChangeSpec.witness_shaped (enc := enc) (C := Tryd.checked) (os := os) (X := fun w _ => laidMetH Tryd.prog laidE w) false (laidWE os) #[.string ByteArray.empty, .string ByteArray.empty] 8 rfl (shapedE os _) (by kernel_rfl) (by kernel_rfl) (by kernel_rfl) (metE os _)) ?_
  intro W base args ds gs before hval0 hW _ hsz0 hL _
  have hsz : (DataW.weightsEach Tryd.prog (Tryd.f8.params.toList ++ Rows.runesPlainSpec.plain.varTypes Tryd.prog) (ds ++ gs)).all (· ≤ reachBytes) = true := hsz0
  have hval : ∀ (j : Nat) t v, Tryd.f8.params[j]? = some t → args[j]? = some v → Value.okWide Tryd.prog W .any base t v := hval0
  have hW' := hW
  obtain ⟨p, q, hA0, hV, rfl, hfz, hnd⟩ := hW
  have hA : DataW.TrodAll enc Tryd.prog W 0 (fun _ => true) true Tryd.f8.params.toList args.toList ds p := hA0
  rw [Tryd.params8] at hA hval hsz
  obtain ⟨v0, vs0, d0, ds0, p0, q0, hargs, rfl, rfl, h0, r0⟩ := trodAll_cons hA
  obtain ⟨v1, vs1, d1, ds1, p1, q1, rfl, rfl, rfl, h1, r1⟩ := trodAll_cons r0
  obtain ⟨rfl, rfl, rfl⟩ := trodAll_nil r1
  obtain rfl : args = #[v0, v1] := by cases args; simp_all
  obtain ⟨rfl, rfl⟩ := trodVars_none hV
  obtain ⟨a0, rfl, rfl, rfl, y0⟩ := open_string Tryd.underlying9 (hval 0 9 v0 rfl rfl) h0
  have w0 : a0.size ≤ 140737488351232 := by
    have z := sized_string hsz (j := 0) (t := 9) rfl rfl
    rw [Array.length_toList] at z
    exact z
  obtain ⟨a1, rfl, rfl, rfl, y1⟩ := open_string Tryd.underlying9 (hval 1 9 v1 rfl rfl) h1
  have w1 : a1.size ≤ 140737488351232 := by
    have z := sized_string hsz (j := 1) (t := 9) rfl rfl
    rw [Array.length_toList] at z
    exact z
  have hTU := tabU_ofE hL
  have hTN := tabN_ofE hL
  have hTE := tabE_ofE hL
  clear hA0 hval0 hsz0 hsz hL
  refine (cognatelaw01_RunesPlain.walk RunesPlain_pure a0 a1 W hTU hTN hTE w0 w1).mono fun e W' ⟨he, bel⟩ => ?_
  subst he
  exact ⟨_, rfl, _, _, _, [], _, [], hW', trodAll_mk1 (shut_bool Tryd.underlying4 _), (trodAll_cons_mk (shut_string Tryd.underlying9 y0) (trodAll_cons_mk (shut_string Tryd.underlying9 y1) trodAll_mk0)), rfl, bel.frame _, fun h => by cases h⟩

theorem over : Rows.RunesPlainSaid :=
  OpenClaim.holds_of_wide 8 Tryd.f8 rfl rfl rfl rfl rfl rfl rfl ⟨rfl, rfl, rfl, rfl, rfl⟩ rfl rfl rfl rfl rfl (by kernel_rfl) Tryd.func8 (by kernel_rfl)
    (of_decide_eq_true (by kernel_rfl)) (by unfold Func.isWrapper; first | (rw [if_pos (by decide +kernel)]; kernel_rfl) | (rw [if_neg (by decide +kernel)]; exact ⟨rfl, rfl⟩))
    (fun os started H enc _ => lifted os started H enc)

/-- The tied card. -/
theorem proved : Rows.RunesPlainCardSaid :=
  Claim7.holds_tied_plain_at .later [] [.data, .data, .data, .data, .sentinel, .sentinel, .pinned] true (true, "ed7fd6e25a07849abb3a1694c84ccb4cce39eaac69888740cb1fd0969a465add") true
    over (fun _ h => by cases h) (by kernel_rfl) (fun _ h => by cases h) runesPlain_row_tie rfl ⟨rfl, rfl⟩ (by kernel_rfl) rfl
    (fun f fn hf hfn => by
      obtain rfl : f = 8 := Option.some.inj ((show Tryd.prog.funcNamed "cognate/cognatelaw01.RunesPlain" = some 8 by kernel_rfl).symm.trans hf) |>.symm
      obtain rfl : fn = Tryd.f8 := (Option.some.inj (Tryd.func8.symm.trans hfn)).symm
      exact ⟨by kernel_rfl, fun j t ht => by
        rw [Tryd.params8] at ht
        have hm : t ∈ [9, 9] := by simpa using Array.mem_of_getElem? ht
        have hall : ([9, 9].all fun u => !Tryd.prog.wantsStandIn u) = true := by kernel_rfl
        exact (show Tryd.prog.wantsStandIn t = false by simpa using List.all_eq_true.1 hall t hm)⟩)
    (by kernel_rfl)
#print axioms proved
end Go.Proofs.YtglaagoblcpggaaDoor.runesPlain
end
