/- The row of texts: runes.Less is an order, told on the pieces' keys. Plain Lean over the printed functions. -/
import Derived.Test.YtglaagoblcpggaaDoorPa2
import Derived.Test.YtglaagoblcpggaaDoorF10
set_option linter.unusedVariables false
set_option linter.unusedSimpArgs false
namespace Go.Proofs.YtglaagoblcpggaaDoor.R
open Go.RowKit Go.Proofs.YtglaagoblcpggaaDoorW.PrintWords

/-- The order of lists of numbers, the first unlike one first; a beginning ahead. -/
def lex : List Nat → List Nat → Bool
  | _, [] => false
  | [], _ :: _ => true
  | x :: l, y :: m => if x = y then lex l m else decide (x < y)
/-- A piece's key: its rune; a broken one behind all runes, by its byte. -/
def key (s : ByteArray) (i : Nat) : Nat := if dc s i = bad then 1114112 + (s.get! i).toNat else (dc s i).1
def keys (s : ByteArray) (i : Nat) : List Nat := (pos s i).map (key s)
theorem keys_end (s : ByteArray) (i : Nat) (h : s.size ≤ i) : keys s i = [] := by unfold keys; rw [pos_end s i h]; rfl
theorem keys_step (s : ByteArray) (i : Nat) (h : i < s.size) : keys s i = key s i :: keys s (i + (dc s i).2) := by unfold keys; rw [pos_step s i h]; rfl

/-- One round of runes.Less, at two places. -/
theorem Less_round (a b : ByteArray) (i j : Nat) (ha : a.size ≤ 140737488351232) (hb : b.size ≤ 140737488351232) (hi : i < a.size) (hj : j < b.size) (k : Nat) :
    runes_Less.l0 (k + 5) (a.extract i a.size) (b.extract j b.size) =
      if key a i = key b j then runes_Less.l0 k (a.extract (i + (dc a i).2) a.size) (b.extract (j + (dc b j).2) b.size) else some (decide (key a i < key b j)) := by
  have ba := dc_bounds a i hi
  have bb := dc_bounds b j hj
  have ga := get_lt a i
  have gb := get_lt b j
  have na : ¬ (a.extract i a.size).toList = [] := fun h => by have := (nil_tail a i).1 h; omega
  have nb : ¬ (b.extract j b.size).toList = [] := fun h => by have := (nil_tail b j).1 h; omega
  have sa := sz_tail a i
  have sb := sz_tail b j
  have za : bt (a.extract i a.size) 0 = ((a.get! i).toNat : Int) := by
    have := bt_get (a.extract i a.size) 0 (by rw [sa]; omega)
    rw [get_tail_any] at this
    exact this
  have zb : bt (b.extract j b.size) 0 = ((b.get! j).toNat : Int) := by
    have := bt_get (b.extract j b.size) 0 (by rw [sb]; omega)
    rw [get_tail_any] at this
    exact this
  have ta : (a.extract i a.size).extract (((dc a i).2 : Nat) : Int).toNat (a.extract i a.size).size = a.extract (i + (dc a i).2) a.size := tail_tail a i _ (by omega)
  have tb : (b.extract j b.size).extract (((dc b j).2 : Nat) : Int).toNat (b.extract j b.size).size = b.extract (j + (dc b j).2) b.size := tail_tail b j _ (by omega)
  obtain ⟨R, hR⟩ : ∃ R, (if key a i = key b j then runes_Less.l0 k (a.extract (i + (dc a i).2) a.size) (b.extract (j + (dc b j).2) b.size) else some (decide (key a i < key b j))) = R := ⟨_, rfl⟩
  -- the last part: two numbers that stand for the keys
  have last : ∀ (X Y : Int) (t : Bool), X = (key a i : Int) → (if t = true then wrap64 (1114112 + wrap64 ((b.get! j).toNat : Int)) else Y) = (key b j : Int) →
      runes_Less.j4 (k + 1) (a.extract i a.size) (b.extract j b.size) ((dc a i).2 : Int) ((dc b j).2 : Int) X Y t = R := by
    intro X Y t hX hY
    have goal : ∀ Z : Int, Z = (key b j : Int) → (if X = Z then (if 0 ≤ ((dc a i).2 : Int) then (if ((dc a i).2 : Int) ≤ ((a.extract i a.size).size : Int) then (if 0 ≤ ((dc b j).2 : Int) then (if ((dc b j).2 : Int) ≤ ((b.extract j b.size).size : Int) then (runes_Less.l0 k ((a.extract i a.size).extract (((dc a i).2 : Nat) : Int).toNat (a.extract i a.size).size) ((b.extract j b.size).extract (((dc b j).2 : Nat) : Int).toNat (b.extract j b.size).size)) else none) else none) else none) else none) else some (decide (X < Z))) = R := by
      intro Z hZ
      subst hX hZ
      rw [← hR]
      by_cases e : key a i = key b j
      · rw [if_pos (by omega), if_pos e, if_pos (by omega), if_pos (by rw [sa]; omega), if_pos (by omega), if_pos (by rw [sb]; omega), ta, tb]
      · rw [if_neg (by omega), if_neg e]
        exact congrArg some (decide_eq_decide.2 (by omega))
    rw [runes_Less.j4, zb]
    cases t with
    | true =>
      rw [if_pos rfl, if_pos (by rw [sb]; omega)]
      exact goal _ (by simpa using hY)
    | false =>
      rw [if_neg (by simp)]
      exact goal _ (by simpa using hY)
  have kb : ∀ {s : ByteArray} {i : Nat}, dc s i = bad → wrap64 (1114112 + wrap64 ((s.get! i).toNat : Int)) = (key s i : Int) := by
    intro s i h
    have := get_lt s i
    unfold key
    rw [if_pos h, w64 (n := ((s.get! i).toNat : Int)) (by omega) (by omega), w64 (by omega) (by omega)]
    omega
  have kn : ∀ {s : ByteArray} {i : Nat}, ¬ dc s i = bad → ((dc s i).1 : Int) = (key s i : Int) := by
    intro s i h
    unfold key
    rw [if_neg h]
  -- the second number
  have kA : ∀ X : Int, X = (key a i : Int) → runes_Less.j3 (k + 2) (a.extract i a.size) (b.extract j b.size) ((dc a i).2 : Int) ((dc b j).1 : Int) ((dc b j).2 : Int) X ((dc b j).1 : Int) = R := by
    intro X hX
    rw [runes_Less.j3]
    by_cases e : ((dc b j).1 : Int) = 65533
    · rw [if_pos e]
      refine last X _ _ hX ?_
      by_cases e2 : (dc b j).2 = 1
      · rw [if_pos (by simp; omega)]
        exact kb ((bad_iff b j hj).2 ⟨by omega, e2⟩)
      · rw [if_neg (by simp; omega)]
        exact kn fun h => e2 ((bad_iff b j hj).1 h).2
    · rw [if_neg e]
      refine last X _ _ hX ?_
      rw [if_neg (by simp)]
      exact kn fun h => e (by have := ((bad_iff b j hj).1 h).1; omega)
  -- the first one
  have kB : ∀ (X : Int) (t : Bool), (if t = true then wrap64 (1114112 + wrap64 ((a.get! i).toNat : Int)) else X) = (key a i : Int) → runes_Less.j2 (k + 3) (a.extract i a.size) (b.extract j b.size) ((dc a i).2 : Int) ((dc b j).1 : Int) ((dc b j).2 : Int) X ((dc b j).1 : Int) t = R := by
    intro X t hX
    rw [runes_Less.j2, za]
    cases t with
    | true =>
      rw [if_pos rfl, if_pos (by rw [sa]; omega)]
      exact kA _ (by simpa using hX)
    | false =>
      rw [if_neg (by simp)]
      exact kA _ (by simpa using hX)
  rw [runes_Less.l0, if_neg na, runes_Less.j1, if_pos (by rw [bne_nil_bytes]; cases h : (b.extract j b.size).toList with | nil => exact absurd h nb | cons _ _ => rfl), go_tail a i hi, Option.bind_some, go_tail b j hj, Option.bind_some, hR]
  simp only
  rw [w64 (n := ((dc a i).1 : Int)) (by omega) (by omega), w64 (n := ((dc b j).1 : Int)) (by omega) (by omega)]
  by_cases e : ((dc a i).1 : Int) = 65533
  · rw [if_pos e]
    refine kB _ _ ?_
    by_cases e2 : (dc a i).2 = 1
    · rw [if_pos (by simp; omega)]
      exact kb ((bad_iff a i hi).2 ⟨by omega, e2⟩)
    · rw [if_neg (by simp; omega)]
      exact kn fun h => e2 ((bad_iff a i hi).1 h).2
  · rw [if_neg e]
    refine kB _ _ ?_
    rw [if_neg (by simp)]
    exact kn fun h => e (by have := ((bad_iff a i hi).1 h).1; omega)

theorem Less_loop (a b : ByteArray) (ha : a.size ≤ 140737488351232) (hb : b.size ≤ 140737488351232) (i : Nat) : ∀ (j k : Nat), 5 * (a.size - i) + 2 ≤ k → runes_Less.l0 k (a.extract i a.size) (b.extract j b.size) = some (lex (keys a i) (keys b j)) := by
  refine by_pieces a (P := fun i => ∀ (j k : Nat), 5 * (a.size - i) + 2 ≤ k → runes_Less.l0 k (a.extract i a.size) (b.extract j b.size) = some (lex (keys a i) (keys b j))) ?_ ?_ i
  · intro i h j k hk
    obtain ⟨k, rfl⟩ : ∃ m, k = m + 2 := ⟨k - 2, by omega⟩
    have ea := (nil_tail a i).2 h
    rw [runes_Less.l0, if_pos ea, runes_Less.j1, if_neg (by simp), if_pos ea, keys_end a i h]
    by_cases hj : j < b.size
    · have nb : ¬ (b.extract j b.size).toList = [] := fun h => by have := (nil_tail b j).1 h; omega
      rw [keys_step b j hj]
      refine congrArg some ?_
      show _ = true
      rw [bne_nil_bytes]
      cases h : (b.extract j b.size).toList with
      | nil => exact absurd h nb
      | cons _ _ => rfl
    · rw [keys_end b j (by omega), (nil_tail b j).2 (by omega)]
      rfl
  · intro i hi ih j k hk
    have ba := dc_bounds a i hi
    by_cases hj : j < b.size
    · obtain ⟨k, rfl⟩ : ∃ m, k = m + 5 := ⟨k - 5, by omega⟩
      rw [Less_round a b i j ha hb hi hj k, keys_step a i hi, keys_step b j hj, lex]
      by_cases e : key a i = key b j
      · rw [if_pos e, if_pos e, ih _ _ (by omega)]
      · rw [if_neg e, if_neg e]
    · obtain ⟨k, rfl⟩ : ∃ m, k = m + 2 := ⟨k - 2, by omega⟩
      have na : ¬ (a.extract i a.size).toList = [] := fun h => by have := (nil_tail a i).1 h; omega
      have eb := (nil_tail b j).2 (by omega)
      rw [runes_Less.l0, if_neg na, runes_Less.j1, eb, if_neg (by simp), if_neg na, keys_end b j (by omega), keys_step a i hi]
      rfl

theorem whole (s : ByteArray) : s.extract 0 s.size = s := by simp
/-- WHAT runes.Less COMPUTES. -/
theorem Less_eq (a b : ByteArray) (ha : a.size ≤ 140737488351232) (hb : b.size ≤ 140737488351232) (k : Nat) (hk : 5 * a.size + 2 ≤ k) : runes_Less.f k a b = some (lex (keys a 0) (keys b 0)) := by
  have := Less_loop a b ha hb 0 0 k (by omega)
  rw [whole, whole] at this
  exact this

end Go.Proofs.YtglaagoblcpggaaDoor.R
