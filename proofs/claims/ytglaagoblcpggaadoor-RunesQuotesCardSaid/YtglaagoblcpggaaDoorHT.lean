/- runes.Text, runes.Back, utf8.RuneCountInString: a text and its runes. -/
import Derived.Test.YtglaagoblcpggaaDoorHP
import Derived.Laws.Cover4
import Derived.Laws.IdiomStrings
set_option linter.unusedVariables false
set_option linter.unusedSimpArgs false
namespace Go.Proofs.YtglaagoblcpggaaDoor.R
open Go.RowKit Go.Proofs.YtglaagoblcpggaaDoorW.PrintWords

def runes_Text.f (l0 : List Int) : Option ByteArray := some (runesBytes l0)

set_option maxHeartbeats 4000000 in
set_option maxRecDepth 100000 in
theorem runes_Text.calls (A0 : Option Addr) (c0 : Nat) (l0 : List Int) (r : ByteArray) (w : World) (hr0 : Kd.C (Kd.int .i32) w A0 l0.length l0) (hc0 : l0.length ≤ c0) (h : runes_Text.f l0 = some r) :
    Calls Tryd.prog 26 #[.slice A0 l0.length c0] w fun e w' => e = .returned (.string r) ∧ Drawn0 w w' := by
  have hR := Kd.reads_of_C (d := (0 : Int)) (h1 := fun _ => rfl) hr0
  have hcv : (convert 39 9 (.slice A0 l0.length c0)).run Tryd.prog w = .ok (.string r) w := by
    obtain rfl := Option.some.inj h
    cases A0 with
    | none =>
      have : l0 = [] := by
        cases l0 with
        | nil => rfl
        | cons x l => obtain ⟨ad, e, _⟩ := hR.2.2 (by simp); cases e
      subst this
      exact run_convert_runes_nil w 39 9 21 _ _ Tryd.underlying39 Tryd.underlying21 Tryd.underlying9
    | some a =>
      have := run_convert_runes (P := Tryd.prog) w 39 9 21 a l0.length c0 l0 (Nat.le_refl _) Tryd.underlying39 Tryd.underlying21 Tryd.underlying9 (fun j hj => by
        obtain ⟨ad, e, hc⟩ := hR.2.2 (by omega)
        cases e
        exact hc j hj)
      rwa [List.take_length] at this
  clear hR hr0 hc0 h
  go_enter Tryd.func26, Tryd.ntmps26
  go_wp2
  go_ret
  exact ⟨rfl, Drawn0.refl _⟩

/-! ### []rune(s) -/
theorem runesFrom_pos (s : ByteArray) : ∀ (b i : Nat) (acc : Array Value), s.size - i ≤ b → Conv.runesFrom s b i acc = acc ++ ((pos s i).map fun j => Value.int .i32 (dc s j).1).toArray
  | 0, i, acc, h => by rw [pos_end s i (by omega)]; simp [Conv.runesFrom]
  | b + 1, i, acc, h => by
    unfold Conv.runesFrom
    by_cases hi : i < s.size
    · have hd := dc_bounds s i hi
      rw [if_pos hi, pos_step s i hi]
      show Conv.runesFrom s b (i + (dc s i).2) (acc.push (.int .i32 (dc s i).1)) = _
      rw [runesFrom_pos s b _ _ (by omega)]
      simp
    · rw [if_neg hi, pos_end s i (by omega)]
      simp
/-- The runes of a text. -/
def runesOf (s : ByteArray) : List Int := (pos s 0).map fun j => ((dc s j).1 : Int)
theorem runesOf_length (s : ByteArray) : (runesOf s).length ≤ s.size := by
  have := pos_length s 0 (by omega)
  unfold runesOf
  simpa using this
theorem runesFrom_all (s : ByteArray) : Conv.runesFrom s s.size 0 #[] = ((runesOf s).map (Value.int .i32)).toArray := by
  rw [runesFrom_pos s s.size 0 #[] (by omega)]
  simp [runesOf, Function.comp_def]

def runes_Back.f (a0 : ByteArray) : Option (ByteArray × Int) := if (a0.size : Int) > 65536 then some (⟨#[]⟩, 3) else some (runesBytes (runesOf a0), 0)

set_option maxHeartbeats 4000000 in
set_option maxRecDepth 100000 in
theorem runes_Back.calls (a0 : ByteArray) (r1 : ByteArray) (r2 : Int) (w : World) (h : runes_Back.f a0 = some (r1, r2)) :
    Calls Tryd.prog 21 #[.string a0] w fun e w' => e = .returned (.tuple #[.string r1, .int .i64 r2]) ∧ Below w.heap.size w w' := by
  unfold runes_Back.f at h
  by_cases c : (a0.size : Int) > 65536
  · rw [if_pos c] at h
    obtain ⟨rfl, rfl⟩ := Prod.mk.inj (Option.some.inj h)
    have hl := Aside0.mk (show runes_long.f a0 = some 3 by unfold runes_long.f; rw [if_pos c])
    clear h c
    go_enter Tryd.func21, Tryd.ntmps21
    go_wp2_with (go_at_call 35; refine (runes_long.calls a0 3 _ hl.out).mono ?_; rintro e w' ⟨rfl, ⟨nd, rfl⟩⟩)
    go_ret2
    exact ⟨rfl, pw_below_drewN (Below.refl _ _) _⟩
  · rw [if_neg c] at h
    obtain ⟨rfl, rfl⟩ := Prod.mk.inj (Option.some.inj h)
    have hl := Aside0.mk (show runes_long.f a0 = some 0 by unfold runes_long.f; rw [if_neg c])
    have hs := runesOf_length a0
    obtain ⟨R, hR⟩ : ∃ R, runesBytes (runesOf a0) = R := ⟨_, rfl⟩
    have h1 : ∀ W : World, ∃ (a : Addr) (n cap : Nat) (W1 : World), (convert 9 39 (.string a0)).run Tryd.prog W = .ok (.slice (some a) n cap) W1 ∧ Below W.heap.size W W1 ∧ (convert 39 9 (.slice (some a) n cap)).run Tryd.prog W1 = .ok (.string R) W1 := by
      intro W
      have h0 := run_runes_of_string (P := Tryd.prog) W 9 39 21 a0 Tryd.underlying9 Tryd.underlying39 Tryd.underlying21 (by rw [runesFrom_all]; simp; omega)
      rw [runesFrom_all] at h0
      simp only [List.size_toArray, List.length_map] at h0
      refine ⟨_, _, _, _, h0, below_alloc (below_drew (Below.refl _ W)) _, ?_⟩
      have := run_convert_runes (P := Tryd.prog) (W.drew.alloc (.cells (((runesOf a0).map (Value.int .i32)).toArray ++ Array.replicate (grownCap W (runesOf a0).length 0 21 - (runesOf a0).length) (.int .i32 0)) 21)) 39 9 21 ⟨W.heap.size, 0, none⟩ (runesOf a0).length (grownCap W (runesOf a0).length 0 21) (runesOf a0) (Nat.le_refl _) Tryd.underlying39 Tryd.underlying21 Tryd.underlying9 (fun j hj => by
        have hc := World.cell?_alloc_mark W.drew (((runesOf a0).map (Value.int .i32)).toArray ++ Array.replicate (grownCap W (runesOf a0).length 0 21 - (runesOf a0).length) (.int .i32 0)) 21 (0, 0) j
        have e : (⟨W.heap.size, 0, none⟩ : Addr).add j = ⟨W.heap.size, j, none⟩ := by simp [Addr.add]; omega
        rw [e]
        refine hc.trans ?_
        rw [Array.getElem?_append_left (by simpa using hj)]
        simp [hj])
      rw [List.take_length, hR] at this
      exact this
    have H1 := Aside0.mk h1
    have HRR := Aside0.mk hR
    clear h c hR h1 hs
    go_enter Tryd.func21, Tryd.ntmps21
    go_wp2_with (go_at_call 35; refine (runes_long.calls a0 0 _ hl.out).mono ?_; rintro e w' ⟨rfl, ⟨nd, rfl⟩⟩; obtain ⟨a1, n1, cap, W1, g1, g2, g3⟩ := H1.out (w.drewN nd); have G2 := Aside0.mk (below_step (pw_below_drewN (Below.refl _ w) nd) g2); clear g2)
    go_ret2
    exact ⟨by rw [HRR.out]; rfl, G2.out⟩

/-! ### how many -/
theorem runeCountFrom_pos (s : ByteArray) : ∀ (f i : Nat), s.size - i ≤ f → Lib.runeCountFrom s f i = (pos s i).length
  | 0, i, h => by rw [pos_end s i (by omega)]; rfl
  | f + 1, i, h => by
    unfold Lib.runeCountFrom
    by_cases hi : i < s.size
    · have hd := dc_bounds s i hi
      rw [if_pos hi, pos_step s i hi]
      show 1 + Lib.runeCountFrom s f (i + (dc s i).2) = _
      rw [runeCountFrom_pos s f _ (by omega), List.length_cons]
      omega
    · rw [if_neg hi, pos_end s i (by omega)]
      rfl
theorem runeCount_eq (s : ByteArray) : Lib.runeCount s = (pieces s).length := by
  unfold Lib.runeCount pieces
  rw [runeCountFrom_pos s s.size 0 (by omega)]
  simp
def utf8_RuneCountInString.f (a0 : ByteArray) : Option Int := if a0.size < 9223372036854775807 then some ((pieces a0).length : Int) else none
theorem utf8_RuneCountInString.calls (a0 : ByteArray) (r : Int) (w : World) (h : utf8_RuneCountInString.f a0 = some r) :
    Calls Tryd.prog 38 #[.string a0] w fun e w' => e = .returned (.int .i64 r) ∧ Below w.heap.size w w' := by
  unfold utf8_RuneCountInString.f at h
  by_cases c : a0.size < 9223372036854775807
  · rw [if_pos c] at h
    obtain rfl := Option.some.inj h
    refine (Tryd.utf8_RuneCountInString a0 w c).mono ?_
    rintro e w' ⟨rfl, p, rfl⟩
    rw [runeCount_eq]
    exact ⟨rfl, below_alloc (Below.refl _ _) _⟩
  · rw [if_neg c] at h
    cases h

end Go.Proofs.YtglaagoblcpggaaDoor.R
