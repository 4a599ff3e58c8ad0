/- Plain facts on a text from a place on, and the forms of a piece. -/
import Derived.Test.YtglaagoblcpggaaDoorPa
import Derived.Test.YtglaagoblcpggaaDoorHU
import Derived.Test.YtglaagoblcpggaaDoorShV
set_option linter.unusedVariables false
set_option linter.unusedSimpArgs false
namespace Go.Proofs.YtglaagoblcpggaaDoor.R
open Go.RowKit Go.Proofs.YtglaagoblcpggaaDoorW.PrintWords

/-! ### a text from a place on -/
theorem sz_tail (s : ByteArray) (i : Nat) : (s.extract i s.size).size = s.size - i := by simp [ByteArray.size_extract]
theorem get_of_lt (s : ByteArray) (i : Nat) (h : i < s.size) : s.get! i = s[i]'h := by
  cases s with
  | mk d => exact getElem!_pos d i h
theorem get_tail (s : ByteArray) (i j : Nat) (h : i + j < s.size) : (s.extract i s.size).get! j = s.get! (i + j) := by
  have h1 : j < (s.extract i s.size).size := by rw [sz_tail]; omega
  have e1 := get_of_lt _ j h1
  have e2 := get_of_lt s _ h
  rw [e1, e2, ByteArray.getElem_extract]
theorem tail_tail (s : ByteArray) (i n : Nat) (h : i + n ≤ s.size) : (s.extract i s.size).extract n (s.extract i s.size).size = s.extract (i + n) s.size := by
  rw [sz_tail, ByteArray.extract_extract]
  congr 1
  omega
theorem dc_far (s : ByteArray) (i : Nat) (h : s.size ≤ i) : (s.get! i).toNat = 0 := by
  cases s with
  | mk d =>
    have : ByteArray.get! ⟨d⟩ i = d[i]! := rfl
    rw [this, getElem!_neg d i (by have : d.size ≤ i := h; omega)]
    rfl
theorem get_tail_any (s : ByteArray) (i j : Nat) : ((s.extract i s.size).get! j).toNat = (s.get! (i + j)).toNat := by
  by_cases h : i + j < s.size
  · rw [get_tail s i j h]
  · rw [dc_far s (i + j) (by omega), dc_far _ j (by rw [sz_tail]; omega)]
theorem dc_tail (s : ByteArray) (i j : Nat) : dc (s.extract i s.size) j = dc s (i + j) := by
  rw [dc_N, dc_N, sz_tail, get_tail_any, get_tail_any, get_tail_any, get_tail_any, show s.size - i - j = s.size - (i + j) by omega, Nat.add_assoc, Nat.add_assoc, Nat.add_assoc]
theorem go_tail (s : ByteArray) (i : Nat) (h : i < s.size) : utf8_DecodeRuneInString.f (s.extract i s.size) = some (((dc s i).1 : Int), ((dc s i).2 : Int)) := by
  unfold utf8_DecodeRuneInString.f Lib.decodeGo
  rw [if_neg (by rw [sz_tail]; omega)]
  have := dc_tail s i 0
  unfold dc at this
  rw [this]
  rfl
theorem nil_tail (s : ByteArray) (i : Nat) : (s.extract i s.size).toList = [] ↔ s.size ≤ i := by
  rw [Lib.toList_data]
  constructor
  · intro h
    have : (s.extract i s.size).size = 0 := by rw [Lib.size_eq, h]; rfl
    rw [sz_tail] at this
    omega
  · intro h
    apply List.eq_nil_of_length_eq_zero
    rw [← Lib.size_eq, sz_tail]
    omega

theorem bad_iff (s : ByteArray) (i : Nat) (h : i < s.size) : dc s i = bad ↔ (dc s i).1 = 65533 ∧ (dc s i).2 = 1 := by
  unfold bad
  constructor
  · intro e; rw [e]; exact ⟨rfl, rfl⟩
  · rintro ⟨e1, e2⟩; exact Prod.ext e1 e2

theorem pos_lt (s : ByteArray) (i : Nat) : ∀ p ∈ pos s i, p < s.size :=
  by_pieces s (P := fun i => ∀ p ∈ pos s i, p < s.size) (fun i h p hp => by rw [pos_end s i h] at hp; cases hp) (fun i h ih p hp => by
    rw [pos_step s i h] at hp
    rcases List.mem_cons.1 hp with rfl | hp
    · exact h
    · exact ih p hp) i

theorem rd_at (l : List S35) (n : Nat) (x : S35) (h : l[n]? = some x) : rd_T35 l (n : Int) = x := by
  unfold rd_T35
  rw [List.getD_eq_getElem?_getD, show ((n : Int)).toNat = n by omega, h]
  rfl

theorem decodeN_form (n b0 b1 b2 b3 : Nat) : Lib.decodeN n b0 b1 b2 b3 = (65533, 1) ∨ ((Lib.decodeN n b0 b1 b2 b3).1 < 128 ∧ (Lib.decodeN n b0 b1 b2 b3).2 = 1) ∨ (128 ≤ (Lib.decodeN n b0 b1 b2 b3).1 ∧ (Lib.decodeN n b0 b1 b2 b3).1 < 2048 ∧ (Lib.decodeN n b0 b1 b2 b3).2 = 2) ∨
    (2048 ≤ (Lib.decodeN n b0 b1 b2 b3).1 ∧ (Lib.decodeN n b0 b1 b2 b3).1 < 65536 ∧ ((Lib.decodeN n b0 b1 b2 b3).1 < 55296 ∨ 57343 < (Lib.decodeN n b0 b1 b2 b3).1) ∧ (Lib.decodeN n b0 b1 b2 b3).2 = 3) ∨ (65536 ≤ (Lib.decodeN n b0 b1 b2 b3).1 ∧ (Lib.decodeN n b0 b1 b2 b3).1 < 1114112 ∧ (Lib.decodeN n b0 b1 b2 b3).2 = 4) := by
  unfold Lib.decodeN
  repeat' split
  all_goals first | exact .inl rfl | (refine .inr (.inl ⟨?_, rfl⟩); show _ < 128; omega) | (refine .inr (.inr (.inl ⟨?_, ?_, rfl⟩)) <;> simp only <;> omega) | (refine .inr (.inr (.inr (.inl ⟨?_, ?_, ?_, rfl⟩))) <;> simp only <;> omega) | (refine .inr (.inr (.inr (.inr ⟨?_, ?_, rfl⟩))) <;> simp only <;> omega)
theorem dc_form (s : ByteArray) (i : Nat) : dc s i = bad ∨ ((dc s i).1 < 128 ∧ (dc s i).2 = 1) ∨ (128 ≤ (dc s i).1 ∧ (dc s i).1 < 2048 ∧ (dc s i).2 = 2) ∨
    (2048 ≤ (dc s i).1 ∧ (dc s i).1 < 65536 ∧ ((dc s i).1 < 55296 ∨ 57343 < (dc s i).1) ∧ (dc s i).2 = 3) ∨ (65536 ≤ (dc s i).1 ∧ (dc s i).1 < 1114112 ∧ (dc s i).2 = 4) := by
  rw [dc_N]
  exact decodeN_form _ _ _ _ _
theorem runeLen_dc (s : ByteArray) (i : Nat) (hr : (dc s i).1 ≠ 65533) : Lib.runeLen ((dc s i).1 : Int) = ((dc s i).2 : Int) := by
  unfold Lib.runeLen
  rcases dc_form s i with h | h | h | h | h
  · exact absurd (by rw [h]; rfl) hr
  all_goals (repeat' split) <;> omega

end Go.Proofs.YtglaagoblcpggaaDoor.R
