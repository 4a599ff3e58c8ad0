/- Plain facts on texts, no program in sight: where the pieces of a text begin, and what each is, by the model's own decoding. -/
import Derived.Test.YtglaagoblcpggaaDoorK
import Derived.Lib.DecodeN
namespace Go.Proofs.YtglaagoblcpggaaDoor.R
open Go.RowKit Go.Proofs.YtglaagoblcpggaaDoorW.PrintWords

theorem bt_get (s : ByteArray) (i : Nat) (h : i < s.size) : bt s (i : Int) = ((s.get! i).toNat : Int) := by
  unfold bt
  have h' : (i : Int).toNat < s.size := by simpa using h
  rw [dif_pos h']
  congr 2
  cases s with
  | mk d => exact (getElem!_pos d i h).symm
theorem get_lt (s : ByteArray) (i : Nat) : (s.get! i).toNat < 256 := (s.get! i).toNat_lt

/-- The rune and the width at a place. -/
def dc (s : ByteArray) (i : Nat) : Nat × Nat := Utf8.decode s i
def bad : Nat × Nat := (65533, 1)
theorem dc_N (s : ByteArray) (i : Nat) : dc s i = Lib.decodeN (s.size - i) (s.get! i).toNat (s.get! (i + 1)).toNat (s.get! (i + 2)).toNat (s.get! (i + 3)).toNat := Lib.decode_at s i

theorem decodeN_bounds (n b0 b1 b2 b3 : Nat) (hn : 1 ≤ n) : 1 ≤ (Lib.decodeN n b0 b1 b2 b3).2 ∧ (Lib.decodeN n b0 b1 b2 b3).2 ≤ n ∧ (Lib.decodeN n b0 b1 b2 b3).2 ≤ 4 ∧ (Lib.decodeN n b0 b1 b2 b3).1 ≤ 1114111 := by
  unfold Lib.decodeN
  repeat' split
  all_goals (simp only; omega)
theorem dc_bounds (s : ByteArray) (i : Nat) (h : i < s.size) : 1 ≤ (dc s i).2 ∧ i + (dc s i).2 ≤ s.size ∧ (dc s i).2 ≤ 4 ∧ (dc s i).1 ≤ 1114111 := by
  rw [dc_N]
  have := decodeN_bounds (s.size - i) (s.get! i).toNat (s.get! (i + 1)).toNat (s.get! (i + 2)).toNat (s.get! (i + 3)).toNat (by omega)
  omega

/-- Where pieces begin, from a place on. -/
def ats (s : ByteArray) : Nat → Nat → List Nat
  | 0, _ => []
  | f + 1, i => if i < s.size then i :: ats s f (i + (dc s i).2) else []
def pos (s : ByteArray) (i : Nat) : List Nat := ats s (s.size - i) i
theorem ats_more (s : ByteArray) : ∀ f g i, s.size - i ≤ f → f ≤ g → ats s g i = ats s f i := by
  intro f
  induction f with
  | zero =>
    intro g i h _
    cases g with
    | zero => rfl
    | succ g => simp only [ats]; rw [if_neg (by omega)]
  | succ f ih =>
    intro g i h hg
    obtain ⟨g, rfl⟩ : ∃ m, g = m + 1 := ⟨g - 1, by omega⟩
    simp only [ats]
    by_cases hi : i < s.size
    · rw [if_pos hi, if_pos hi, ih g _ (by have := dc_bounds s i hi; omega) (by omega)]
    · rw [if_neg hi, if_neg hi]
theorem pos_end (s : ByteArray) (i : Nat) (h : s.size ≤ i) : pos s i = [] := by
  unfold pos
  rw [show s.size - i = 0 by omega]
  rfl
theorem pos_step (s : ByteArray) (i : Nat) (h : i < s.size) : pos s i = i :: pos s (i + (dc s i).2) := by
  unfold pos
  obtain ⟨f, hf⟩ : ∃ f, s.size - i = f + 1 := ⟨s.size - i - 1, by omega⟩
  rw [hf]
  simp only [ats]
  have := dc_bounds s i h
  rw [if_pos h, ats_more s (s.size - (i + (dc s i).2)) f _ (Nat.le_refl _) (by omega)]

/-- The piece at a place. -/
def piece (s : ByteArray) (i : Nat) : S35 := ⟨((dc s i).1 : Int), (i : Int), ((dc s i).2 : Int), decide (dc s i = bad)⟩
/-- The pieces of a text. -/
def pieces (s : ByteArray) : List S35 := (pos s 0).map (piece s)

/-- A way through a text, piece by piece: to prove of a place, it is enough to come from the places behind it. -/
theorem by_pieces {P : Nat → Prop} (s : ByteArray) (hend : ∀ i, s.size ≤ i → P i) (hstep : ∀ i, i < s.size → P (i + (dc s i).2) → P i) (i : Nat) : P i := by
  obtain ⟨d, hd⟩ : ∃ d, s.size - i ≤ d := ⟨_, Nat.le_refl _⟩
  induction d generalizing i with
  | zero => exact hend i (by omega)
  | succ d ih =>
    by_cases h : i < s.size
    · exact hstep i h (ih _ (by have := dc_bounds s i h; omega))
    · exact hend i (by omega)
theorem pos_length (s : ByteArray) : ∀ i, i ≤ s.size → (pos s i).length + i ≤ s.size :=
  by_pieces s (fun i h h' => by rw [pos_end s i h]; simpa using h') (fun i h ih _ => by
    have := dc_bounds s i h
    rw [pos_step s i h, List.length_cons]
    have := ih (by omega)
    omega)

theorem w64 {n : Int} (h0 : -9223372036854775808 ≤ n) (h1 : n < 9223372036854775808) : wrap64 n = n := by unfold wrap64; omega
theorem w32 {n : Int} (h0 : -2147483648 ≤ n) (h1 : n < 2147483648) : wrap32 n = n := by unfold wrap32; omega

end Go.Proofs.YtglaagoblcpggaaDoor.R
