/- runes.Plain: reads a quoted text. -/
import Derived.Test.YtglaagoblcpggaaDoorHJ
import Derived.Test.YtglaagoblcpggaaDoorHV
import Derived.Laws.Cover4
set_option linter.unusedVariables false
set_option linter.unusedSimpArgs false
namespace Go.Proofs.YtglaagoblcpggaaDoor.R
open Go.RowKit Go.Proofs.YtglaagoblcpggaaDoorW.PrintWords

theorem extract_le (s : ByteArray) (a b : Nat) : (s.extract a b).size ≤ b - a := by rw [ByteArray.size_extract]; omega
theorem sixteens_le (s : ByteArray) : sixteens s ≤ s.size := by
  unfold sixteens
  have h1 : ((s.data.toList.drop 2).takeWhile isHexB).length ≤ (s.data.toList.drop 2).length := (List.takeWhile_prefix isHexB).length_le
  have h2 : s.data.toList.length = s.size := Array.length_toList
  rw [List.length_drop] at h1
  omega
theorem thingP_size (s : ByteArray) : (thingP s).1.size ≤ 4 ∧ (thingP s).2 ≤ s.size + 4 := by
  have h0 : (⟨#[]⟩ : ByteArray).size ≤ 4 ∧ 0 ≤ s.size + 4 := ⟨Nat.zero_le _, Nat.zero_le _⟩
  have h6 := sixteens_le s
  unfold thingP thingU
  have henc := encode_size_le
  revert henc
  generalize Utf8.encode = enc
  intro henc
  repeat' split
  all_goals first
    | exact h0
    | exact ⟨by have := extract_le s 0 1; simp only; omega, by simp only; omega⟩
    | exact ⟨by have := extract_le s 1 2; simp only; omega, by simp only; omega⟩
    | exact ⟨(show 1 ≤ 4 by omega), by simp only; omega⟩
    | exact ⟨henc _, by simp only; omega⟩

def plainLoop : Nat → ByteArray → Nat → List UInt8 → Bool × Nat × List UInt8
  | 0, _, i, acc => (true, i, acc)
  | f + 1, s, i, acc => if i < s.size ∧ (s.get! i).toNat ≠ 34 then
      (if (thingP (s.extract i s.size)).2 = 0 then (true, i, []) else plainLoop f s (i + (thingP (s.extract i s.size)).2) (acc ++ (thingP (s.extract i s.size)).1.data.toList))
    else (false, i, acc)
/-- What runes.Plain answers of what its loop left. -/
def plainEnd (s : ByteArray) (r : Bool × Nat × List UInt8) : ByteArray × Int × Int :=
  if r.1 = true then (⟨#[]⟩, r.2.1, 10)
  else if s.size ≤ r.2.1 then (⟨#[]⟩, r.2.1, 10)
  else if r.2.1 + 1 < s.size then (⟨#[]⟩, ((r.2.1 + 1 : Nat) : Int), 10)
  else if 65536 < r.2.2.length then (⟨#[]⟩, 0, 3)
  else if runes_quote.f ⟨r.2.2.toArray⟩ = some s then (⟨r.2.2.toArray⟩, 0, 0) else (⟨#[]⟩, 0, 10)
def runes_Plain.f (a0 : ByteArray) : Option (ByteArray × Int × Int) :=
  if 1048576 < a0.size then some (⟨#[]⟩, 0, 3)
  else if Lib.hasPrefix a0.data.toList [34] = false then some (⟨#[]⟩, 0, 10)
  else some (plainEnd a0 (plainLoop (a0.size + 1) a0 1 []))

set_option maxHeartbeats 8000000 in
set_option maxRecDepth 100000 in
theorem plain_big (s : ByteArray) (h : 1048576 < s.size) (w : World) : Calls Tryd.prog 29 #[.string s] w fun e w' => e = .returned (.tuple #[.string ⟨#[]⟩, .int .i64 0, .int .i64 3]) ∧ Below w.heap.size w w' := by
  go_enter Tryd.func29, Tryd.ntmps29
  go_wp2
  go_ret3
  exact ⟨rfl, Below.refl _ _⟩
set_option maxHeartbeats 8000000 in
set_option maxRecDepth 100000 in
theorem plain_bare (s : ByteArray) (h : s.size ≤ 1048576) (hp : Lib.hasPrefix s.data.toList [34] = false) (w : World) : Calls Tryd.prog 29 #[.string s] w fun e w' => e = .returned (.tuple #[.string ⟨#[]⟩, .int .i64 0, .int .i64 10]) ∧ Below w.heap.size w w' := by
  have HP := Aside0.mk hp
  clear hp
  go_enter Tryd.func29, Tryd.ntmps29
  go_wp2_with (go_at_call 45; refine (Tryd.strings_HasPrefix _ _ _).mono ?_; rw [show (⟨#[34]⟩ : ByteArray).data.toList = [34] from rfl, HP.out]; rintro e w6 ⟨rfl, rfl⟩)
  go_ret3
  exact ⟨rfl, Below.refl _ _⟩

/-- What holds ahead of each round. -/
structure PlI (s : ByteArray) (b : Nat) (w : World) (i f : Nat) (acc : List UInt8) (wr : World) : Prop where
  bld : Lib.IsBuilderF 59 5 w.heap.size b (Lib.byteCells acc) wr
  bel : Below w.heap.size w wr
  len : acc.length ≤ 4 * i
  top : i ≤ 2 * s.size + 8
  one : 1 ≤ i
  fuel : s.size - i < f
  eq : plainLoop f s i acc = plainLoop (s.size + 1) s 1 []

set_option maxHeartbeats 16000000 in
set_option maxRecDepth 100000 in
theorem plain_main (s : ByteArray) (h : s.size ≤ 1048576) (hp : Lib.hasPrefix s.data.toList [34] = true) (w : World) (hTU : TabU w) (hTN : TabN w) (hTE : TabE w) :
    Calls Tryd.prog 29 #[.string s] w fun e w' => e = .returned (.tuple #[.string (plainEnd s (plainLoop (s.size + 1) s 1 [])).1, .int .i64 (plainEnd s (plainLoop (s.size + 1) s 1 [])).2.1, .int .i64 (plainEnd s (plainLoop (s.size + 1) s 1 [])).2.2]) ∧ Below w.heap.size w w' := by
  have HP := Aside0.mk hp
  have HU := Aside0.mk hTU
  have HN := Aside0.mk hTN
  have HE := Aside0.mk hTE
  clear hp hTU hTN hTE
  go_enter Tryd.func29, Tryd.ntmps29
  go_wp2_with (first | (go_at_call 45; refine (Tryd.strings_HasPrefix _ _ _).mono ?_; rw [show (⟨#[34]⟩ : ByteArray).data.toList = [34] from rfl, HP.out]; rintro e w6 ⟨rfl, hw6⟩; have hw7 := hw6.symm; clear hw6; subst hw7) | ((with_reducible refine gate_dst (N := 5) rfl ?_); refine box_event ?hg (N := 5) ?hd (cs := #[.pointer none, .slice none 0 0]) (t := 59) ?hr ?_; (case hd => rfl); (case hg => rfl); (case hr => first | (go_simp; done) | (go_simp; rfl)); intro b hb w6 hbox6 hb6; have HGB := Aside0.mk hb; have HBX := Aside0.mk hbox6; have HB6 := Aside0.mk hb6; clear hb hbox6 hb6))
  go_loopw [6] (fun v6 wr => ∃ (i f : Nat) (acc : List UInt8), v6 = .int .i64 i ∧ Aside0 (PlI s b w i f acc wr)) (fun v6 wr => s.size - (intOf v6).toNat)
  case atStart => exact ⟨1, s.size + 1, [], rfl, ⟨⟨.inl ⟨by rw [HGB.out]; exact Nat.le_refl _, _, HBX.out, World.ownsRowF_nil _ _ _ _, by simp [Value.ownBlock]⟩, HB6.out, by simp, by omega, by omega, by omega, rfl⟩⟩⟩
  case round =>
    obtain ⟨i, f, acc, rfl, HI⟩ := hrel
    have hi1 := HI.out.one
    have hi2 := HI.out.top
    have hk : ∀ W, Below w.heap.size wr W → Below w.heap.size w W := fun W hb => HI.out.bel.trans hb
    have HK := Aside0.mk hk
    clear hk
    by_cases hi : i < s.size
    · have hix : ∀ W, (Instr.index 9 (.string s) (.int .i64 i)).run Tryd.prog W = _ := fun W => hix_at s i hi W
      have hc8 := get_lt s i
      by_cases hq : (s.get! i).toNat = 34
      · -- a quote: the end of the text that is read
        have hr : plainLoop (s.size + 1) s 1 [] = (false, i, acc) := by
          have h1 := HI.out.eq
          have h2 := HI.out.fuel
          obtain ⟨f, rfl⟩ : ∃ g, f = g + 1 := ⟨f - 1, by omega⟩
          rw [← h1, plainLoop, if_neg (by omega)]
        have HR := Aside0.mk hr
        rw [hq] at hix
        clear hr hq hc8
        by_cases hm : i + 1 < s.size
        · have he : plainEnd s (false, i, acc) = (⟨#[]⟩, ((i + 1 : Nat) : Int), 10) := by unfold plainEnd; rw [if_neg (by simp), if_neg (by simp only; omega), if_pos (by simpa using hm)]
          have HEQ := Aside0.mk he
          clear he
          go_wp2
          go_ret3
          exact ⟨by rw [HR.out, HEQ.out]; rfl, HI.out.bel⟩
        · have hll := Aside0.mk (show acc.length ≤ 100000000 by have := HI.out.len; omega)
          by_cases hl : 65536 < acc.length
          · have he : plainEnd s (false, i, acc) = (⟨#[]⟩, 0, 3) := by unfold plainEnd; rw [if_neg (by simp), if_neg (by simp only; omega), if_neg (by simpa using hm), if_pos (by simpa using hl)]
            have HEQ := Aside0.mk he
            clear he
            go_wp2_with (go_at_call 48; refine (Tryd.Builder_Len_f w.heap.size b _ _ HI.out.bld).mono ?_; rw [Lib.byteCells_length]; rintro e w7 ⟨rfl, rfl⟩)
            go_ret3
            exact ⟨by rw [HR.out, HEQ.out]; rfl, HI.out.bel⟩
          · have hqf : ∃ q, runes_quote.f ⟨acc.toArray⟩ = some q := by unfold runes_quote.f; rw [if_pos (by simp [ByteArray.size]; omega)]; exact ⟨_, rfl⟩
            obtain ⟨q, hqf⟩ := hqf
            have HQF := Aside0.mk hqf
            clear hqf
            by_cases hqs : q = s
            · have he : plainEnd s (false, i, acc) = (⟨acc.toArray⟩, 0, 0) := by unfold plainEnd; rw [if_neg (by simp), if_neg (by simp only; omega), if_neg (by simpa using hm), if_neg (by simpa using hl), if_pos (by rw [HQF.out, hqs])]
              have HEQ := Aside0.mk he
              clear he
              subst hqs
              go_wp2_with (first | (go_at_call 48; refine (Tryd.Builder_Len_f w.heap.size b _ _ HI.out.bld).mono ?_; rw [Lib.byteCells_length]; rintro e w7 ⟨rfl, rfl⟩) | (go_at_call 49; first | (refine (Tryd.Builder_String_any_k w.heap.size b acc _ HI.out.bld HI.out.bel.size).mono ?_; rintro e w8 ⟨rfl, h8, hb8, hk8⟩; have H8 := Aside0.mk h8; have HB8 := Aside0.mk (HI.out.bel.trans hb8); clear h8 hb8 hk8) | (refine (Tryd.Builder_String_any_k w.heap.size b acc _ (builder_below H8.out HB9.out) (HB9a.out.size)).mono ?_; rintro e w10 ⟨rfl, h10, hb10, hk10⟩; have HB10 := Aside0.mk (HB9a.out.trans hb10); clear h10 hb10 hk10)) | (go_at_call 43; refine (runes_quote.calls _ _ _ (HU.out.below HB8.out) (HN.out.below HB8.out) HQF.out).mono ?_; rintro e w9 ⟨rfl, hb9⟩; have HB9 := Aside0.mk hb9; have HB9a := Aside0.mk (HB8.out.trans (hb9.mono HB8.out.size)); clear hb9))
              go_ret3
              exact ⟨by rw [HR.out, HEQ.out]; rfl, HB10.out⟩
            · have he : plainEnd s (false, i, acc) = (⟨#[]⟩, 0, 10) := by unfold plainEnd; rw [if_neg (by simp), if_neg (by simp only; omega), if_neg (by simpa using hm), if_neg (by simpa using hl), if_neg (by rw [HQF.out]; simpa using hqs)]
              have HEQ := Aside0.mk he
              clear he
              have hne : (q.toList == s.toList) = false := beq_eq_false_iff_ne.2 fun e => hqs (by rw [Lib.toList_data, Lib.toList_data] at e; exact ByteArray.ext (Array.toList_inj.1 e))
              have hne2 : q.toList ≠ s.toList := by simpa using hne
              go_wp2_with (first | (go_at_call 48; refine (Tryd.Builder_Len_f w.heap.size b _ _ HI.out.bld).mono ?_; rw [Lib.byteCells_length]; rintro e w7 ⟨rfl, rfl⟩) | (go_at_call 49; refine (Tryd.Builder_String_any_k w.heap.size b acc _ HI.out.bld HI.out.bel.size).mono ?_; rintro e w8 ⟨rfl, h8, hb8, hk8⟩; have H8 := Aside0.mk h8; have HB8 := Aside0.mk (HI.out.bel.trans hb8); clear h8 hb8 hk8) | (go_at_call 43; refine (runes_quote.calls _ _ _ (HU.out.below HB8.out) (HN.out.below HB8.out) HQF.out).mono ?_; rintro e w9 ⟨rfl, hb9⟩; have HB9a := Aside0.mk (HB8.out.trans (hb9.mono HB8.out.size)); clear hb9))
              go_ret3
              exact ⟨by rw [HR.out, HEQ.out]; rfl, HB9a.out⟩
      · have hsz : (s.extract i s.size).size = s.size - i := by rw [ByteArray.size_extract]; omega
        have hqb : (((s.get! i).toNat : Int) == 34) = false := beq_eq_false_iff_ne.2 (by omega)
        have ht := fun W hE => thing_any (s.extract i s.size) (by omega) (by omega) W hE
        have hts := thingP_size (s.extract i s.size)
        have hstep : plainLoop f s i acc = (if (thingP (s.extract i s.size)).2 = 0 then (true, i, []) else plainLoop (f - 1) s (i + (thingP (s.extract i s.size)).2) (acc ++ (thingP (s.extract i s.size)).1.data.toList)) := by
          have h2 := HI.out.fuel
          obtain ⟨f, rfl⟩ : ∃ g, f = g + 1 := ⟨f - 1, by omega⟩
          rw [plainLoop, if_pos ⟨hi, hq⟩, Nat.add_sub_cancel]
        have HT := Aside0.mk ht
        have HTS := Aside0.mk hts
        have HSTEP := Aside0.mk (HI.out.eq.symm.trans hstep)
        clear ht hts hstep hq
        generalize (thingP (s.extract i s.size)).1 = txt at HT HTS HSTEP
        generalize (thingP (s.extract i s.size)).2 = n at HT HTS HSTEP
        by_cases hn : n = 0
        · subst hn
          have hr := Aside0.mk (show plainEnd s (plainLoop (s.size + 1) s 1 []) = (⟨#[]⟩, (i : Int), 10) by rw [HSTEP.out, if_pos rfl]; rfl)
          go_wp2_with (go_at_call 46; refine (HT.out _ (HE.out.below HI.out.bel)).mono ?_; rintro e w7 ⟨rfl, hb7⟩; have HB7 := Aside0.mk hb7; clear hb7)
          go_ret3
          exact ⟨by rw [hr.out]; rfl, HI.out.bel.trans (HB7.out.mono HI.out.bel.size)⟩
        · have hnb : ((n : Int) == 0) = false := beq_eq_false_iff_ne.2 (by omega)
          have hn1 : n ≤ s.size + 4 := by have := HTS.out; omega
          go_wp2_with (first | (go_at_call 46; refine (HT.out _ (HE.out.below HI.out.bel)).mono ?_; rintro e w7 ⟨rfl, hb7⟩; have HB7 := Aside0.mk hb7; have HB7a := Aside0.mk (HI.out.bel.trans (hb7.mono HI.out.bel.size)); clear hb7) | (go_at_call 47; refine (WriteString_k w.heap.size b _ txt _ (builder_below HI.out.bld HB7.out) (by rw [Lib.byteCells_length]; have := HI.out.len; have := HTS.out; omega) HB7a.out.size).mono ?_; rintro e w8 ⟨rfl, h8, hb8, hk8⟩; have H8 := Aside0.mk h8; have HB8 := Aside0.mk (HB7a.out.trans hb8); clear h8 hb8 hk8))
          go_roundw
          case rel =>
            refine ⟨i + n, f - 1, acc ++ txt.data.toList, by go_num, ⟨⟨.inr ?_, HB8.out, ?_, by omega, by omega, by have := HI.out.fuel; omega, ?_⟩⟩⟩
            · have e : Lib.byteCells (acc ++ txt.data.toList) = Lib.byteCells acc ++ Lib.strCells txt := by simp [Lib.byteCells, Lib.strCells]
              rw [e]
              exact H8.out
            · have h1 := HI.out.len
              have h2 := HTS.out.1
              have h3 : txt.data.toList.length = txt.size := Array.length_toList
              rw [List.length_append, h3]
              omega
            · have := HSTEP.out
              rw [if_neg hn] at this
              exact this.symm
          case measure => simp [intOf]; omega
    · have hr : plainLoop (s.size + 1) s 1 [] = (false, i, acc) := by
        have h1 := HI.out.eq
        have h2 := HI.out.fuel
        obtain ⟨f, rfl⟩ : ∃ g, f = g + 1 := ⟨f - 1, by omega⟩
        rw [← h1, plainLoop, if_neg (by omega)]
      have he : plainEnd s (false, i, acc) = (⟨#[]⟩, (i : Int), 10) := by unfold plainEnd; rw [if_neg (by simp), if_pos (by simp only; omega)]
      have HR := Aside0.mk hr
      have HEQ := Aside0.mk he
      clear hr he
      go_wp2
      go_ret3
      exact ⟨by rw [HR.out, HEQ.out]; rfl, HI.out.bel⟩

theorem runes_Plain.calls (a0 : ByteArray) (r1 : ByteArray) (r2 : Int) (r3 : Int) (w : World) (hTU : TabU w) (hTN : TabN w) (hTE : TabE w) (h : runes_Plain.f a0 = some (r1, r2, r3)) :
    Calls Tryd.prog 29 #[.string a0] w fun e w' => e = .returned (.tuple #[.string r1, .int .i64 r2, .int .i64 r3]) ∧ Below w.heap.size w w' := by
  unfold runes_Plain.f at h
  by_cases c1 : 1048576 < a0.size
  · rw [if_pos c1] at h
    injection h with h
    injection h with h1 h
    injection h with h2 h3
    subst h1 h2 h3
    exact plain_big a0 c1 w
  · rw [if_neg c1] at h
    by_cases c2 : Lib.hasPrefix a0.data.toList [34] = false
    · rw [if_pos c2] at h
      injection h with h
      injection h with h1 h
      injection h with h2 h3
      subst h1 h2 h3
      exact plain_bare a0 (by omega) c2 w
    · rw [if_neg c2] at h
      have e := Option.some.inj h
      have := plain_main a0 (by omega) (by simpa using c2) w hTU hTN hTE
      rw [e] at this
      exact this
end Go.Proofs.YtglaagoblcpggaaDoor.R
