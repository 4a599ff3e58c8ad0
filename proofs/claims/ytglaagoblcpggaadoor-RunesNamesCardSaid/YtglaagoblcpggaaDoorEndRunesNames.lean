/- The names hold: the bounds, the faults' numbers, and what Pieces, Len, Broken, Part, Quote, Plain, Text and Less answer at the texts of the closed sentence. -/
import Derived.Test.YtglaagoblcpggaaDoorPa2
import Derived.Test.YtglaagoblcpggaaDoorF10
import Derived.Test.YtglaagoblcpggaaDoorHL
import Derived.Test.YtglaagoblcpggaaDoorF9
import Derived.KernelRfl
import Derived.Test.YtglaagoblcpggaaDoorRows
import Derived.Test.YtglaagoblcpggaaDoorTabs
import Derived.Lib.LaidU8
import Derived.LaidMore
import Derived.MakeChecks
import Derived.Test.YtglaagoblcpggaaDoorHF
import Derived.Test.YtglaagoblcpggaaDoorHY
import Derived.Test.YtglaagoblcpggaaDoorCards
import Derived.Test.YtglaagoblcpggaaDoorTie
import Derived.WalkKit
import Derived.ProofKit
import Derived.OpenShut
import Derived.ShutString
import Derived.ChangeOld
import Derived.Below
import Derived.SizedLaws
import Derived.SevenTiedAt
section
set_option linter.unusedVariables false
set_option linter.unusedSimpArgs false
namespace Go.Proofs.YtglaagoblcpggaaDoor.R
open Go.RowKit Go.Proofs.YtglaagoblcpggaaDoorW.PrintWords

/-- The order of lists of numbers, the first unlike one first; a beginning ahead. -/
def lex : List Nat → List Nat → Bool
  | _, [] => false
  | [], _ :: _ => true
  | x :: l, y :: m => if x = y then lex l m else decide (x < y)
/-- A piece's key: its rune; a broken one behind all runes, by its byte. -/
def key (s : ByteArray) (i : Nat) : Nat := if dc s i = bad then 1114112 + (s.get! i).toNat else (dc s i).1
def keys (s : ByteArray) (i : Nat) : List Nat := (pos s i).map (key s)
theorem keys_end (s : ByteArray) (i : Nat) (h : s.size ≤ i) : keys s i = [] := by unfold keys; rw [pos_end s i h]; rfl
theorem keys_step (s : ByteArray) (i : Nat) (h : i < s.size) : keys s i = key s i :: keys s (i + (dc s i).2) := by unfold keys; rw [pos_step s i h]; rfl

/-- One round of runes.Less, at two places. -/
theorem Less_round (a b : ByteArray) (i j : Nat) (ha : a.size ≤ 140737488351232) (hb : b.size ≤ 140737488351232) (hi : i < a.size) (hj : j < b.size) (k : Nat) :
    runes_Less.l0 (k + 5) (a.extract i a.size) (b.extract j b.size) =
      if key a i = key b j then runes_Less.l0 k (a.extract (i + (dc a i).2) a.size) (b.extract (j + (dc b j).2) b.size) else some (decide (key a i < key b j)) := by
  have ba := dc_bounds a i hi
  have bb := dc_bounds b j hj
  have ga := get_lt a i
  have gb := get_lt b j
  have na : ¬ (a.extract i a.size).toList = [] := fun h => by have := (nil_tail a i).1 h; omega
  have nb : ¬ (b.extract j b.size).toList = [] := fun h => by have := (nil_tail b j).1 h; omega
  have sa := sz_tail a i
  have sb := sz_tail b j
  have za : bt (a.extract i a.size) 0 = ((a.get! i).toNat : Int) := by
    have := bt_get (a.extract i a.size) 0 (by rw [sa]; omega)
    rw [get_tail_any] at this
    exact this
  have zb : bt (b.extract j b.size) 0 = ((b.get! j).toNat : Int) := by
    have := bt_get (b.extract j b.size) 0 (by rw [sb]; omega)
    rw [get_tail_any] at this
    exact this
  have ta : (a.extract i a.size).extract (((dc a i).2 : Nat) : Int).toNat (a.extract i a.size).size = a.extract (i + (dc a i).2) a.size := tail_tail a i _ (by omega)
  have tb : (b.extract j b.size).extract (((dc b j).2 : Nat) : Int).toNat (b.extract j b.size).size = b.extract (j + (dc b j).2) b.size := tail_tail b j _ (by omega)
  obtain ⟨R, hR⟩ : ∃ R, (if key a i = key b j then runes_Less.l0 k (a.extract (i + (dc a i).2) a.size) (b.extract (j + (dc b j).2) b.size) else some (decide (key a i < key b j))) = R := ⟨_, rfl⟩
  -- the last part: two numbers that stand for the keys
  have last : ∀ (X Y : Int) (t : Bool), X = (key a i : Int) → (if t = true then wrap64 (1114112 + wrap64 ((b.get! j).toNat : Int)) else Y) = (key b j : Int) →
      runes_Less.j4 (k + 1) (a.extract i a.size) (b.extract j b.size) ((dc a i).2 : Int) ((dc b j).2 : Int) X Y t = R := by
    intro X Y t hX hY
    have goal : ∀ Z : Int, Z = (key b j : Int) → (if X = Z then (if 0 ≤ ((dc a i).2 : Int) then (if ((dc a i).2 : Int) ≤ ((a.extract i a.size).size : Int) then (if 0 ≤ ((dc b j).2 : Int) then (if ((dc b j).2 : Int) ≤ ((b.extract j b.size).size : Int) then (runes_Less.l0 k ((a.extract i a.size).extract (((dc a i).2 : Nat) : Int).toNat (a.extract i a.size).size) ((b.extract j b.size).extract (((dc b j).2 : Nat) : Int).toNat (b.extract j b.size).size)) else none) else none) else none) else none) else some (decide (X < Z))) = R := by
      intro Z hZ
      subst hX hZ
      rw [← hR]
      by_cases e : key a i = key b j
      · rw [if_pos (by omega), if_pos e, if_pos (by omega), if_pos (by rw [sa]; omega), if_pos (by omega), if_pos (by rw [sb]; omega), ta, tb]
      · rw [if_neg (by omega), if_neg e]
        exact congrArg some (decide_eq_decide.2 (by omega))
    rw [runes_Less.j4, zb]
    cases t with
    | true =>
      rw [if_pos rfl, if_pos (by rw [sb]; omega)]
      exact goal _ (by simpa using hY)
    | false =>
      rw [if_neg (by simp)]
      exact goal _ (by simpa using hY)
  have kb : ∀ {s : ByteArray} {i : Nat}, dc s i = bad → wrap64 (1114112 + wrap64 ((s.get! i).toNat : Int)) = (key s i : Int) := by
    intro s i h
    have := get_lt s i
    unfold key
    rw [if_pos h, w64 (n := ((s.get! i).toNat : Int)) (by omega) (by omega), w64 (by omega) (by omega)]
    omega
  have kn : ∀ {s : ByteArray} {i : Nat}, ¬ dc s i = bad → ((dc s i).1 : Int) = (key s i : Int) := by
    intro s i h
    unfold key
    rw [if_neg h]
  -- the second number
  have kA : ∀ X : Int, X = (key a i : Int) → runes_Less.j3 (k + 2) (a.extract i a.size) (b.extract j b.size) ((dc a i).2 : Int) ((dc b j).1 : Int) ((dc b j).2 : Int) X ((dc b j).1 : Int) = R := by
    intro X hX
    rw [runes_Less.j3]
    by_cases e : ((dc b j).1 : Int) = 65533
    · rw [if_pos e]
      refine last X _ _ hX ?_
      by_cases e2 : (dc b j).2 = 1
      · rw [if_pos (by simp; omega)]
        exact kb ((bad_iff b j hj).2 ⟨by omega, e2⟩)
      · rw [if_neg (by simp; omega)]
        exact kn fun h => e2 ((bad_iff b j hj).1 h).2
    · rw [if_neg e]
      refine last X _ _ hX ?_
      rw [if_neg (by simp)]
      exact kn fun h => e (by have := ((bad_iff b j hj).1 h).1; omega)
  -- the first one
  have kB : ∀ (X : Int) (t : Bool), (if t = true then wrap64 (1114112 + wrap64 ((a.get! i).toNat : Int)) else X) = (key a i : Int) → runes_Less.j2 (k + 3) (a.extract i a.size) (b.extract j b.size) ((dc a i).2 : Int) ((dc b j).1 : Int) ((dc b j).2 : Int) X ((dc b j).1 : Int) t = R := by
    intro X t hX
    rw [runes_Less.j2, za]
    cases t with
    | true =>
      rw [if_pos rfl, if_pos (by rw [sa]; omega)]
      exact kA _ (by simpa using hX)
    | false =>
      rw [if_neg (by simp)]
      exact kA _ (by simpa using hX)
  rw [runes_Less.l0, if_neg na, runes_Less.j1, if_pos (by rw [bne_nil_bytes]; cases h : (b.extract j b.size).toList with | nil => exact absurd h nb | cons _ _ => rfl), go_tail a i hi, Option.bind_some, go_tail b j hj, Option.bind_some, hR]
  simp only
  rw [w64 (n := ((dc a i).1 : Int)) (by omega) (by omega), w64 (n := ((dc b j).1 : Int)) (by omega) (by omega)]
  by_cases e : ((dc a i).1 : Int) = 65533
  · rw [if_pos e]
    refine kB _ _ ?_
    by_cases e2 : (dc a i).2 = 1
    · rw [if_pos (by simp; omega)]
      exact kb ((bad_iff a i hi).2 ⟨by omega, e2⟩)
    · rw [if_neg (by simp; omega)]
      exact kn fun h => e2 ((bad_iff a i hi).1 h).2
  · rw [if_neg e]
    refine kB _ _ ?_
    rw [if_neg (by simp)]
    exact kn fun h => e (by have := ((bad_iff a i hi).1 h).1; omega)

theorem Less_loop (a b : ByteArray) (ha : a.size ≤ 140737488351232) (hb : b.size ≤ 140737488351232) (i : Nat) : ∀ (j k : Nat), 5 * (a.size - i) + 2 ≤ k → runes_Less.l0 k (a.extract i a.size) (b.extract j b.size) = some (lex (keys a i) (keys b j)) := by
  refine by_pieces a (P := fun i => ∀ (j k : Nat), 5 * (a.size - i) + 2 ≤ k → runes_Less.l0 k (a.extract i a.size) (b.extract j b.size) = some (lex (keys a i) (keys b j))) ?_ ?_ i
  · intro i h j k hk
    obtain ⟨k, rfl⟩ : ∃ m, k = m + 2 := ⟨k - 2, by omega⟩
    have ea := (nil_tail a i).2 h
    rw [runes_Less.l0, if_pos ea, runes_Less.j1, if_neg (by simp), if_pos ea, keys_end a i h]
    by_cases hj : j < b.size
    · have nb : ¬ (b.extract j b.size).toList = [] := fun h => by have := (nil_tail b j).1 h; omega
      rw [keys_step b j hj]
      refine congrArg some ?_
      show _ = true
      rw [bne_nil_bytes]
      cases h : (b.extract j b.size).toList with
      | nil => exact absurd h nb
      | cons _ _ => rfl
    · rw [keys_end b j (by omega), (nil_tail b j).2 (by omega)]
      rfl
  · intro i hi ih j k hk
    have ba := dc_bounds a i hi
    by_cases hj : j < b.size
    · obtain ⟨k, rfl⟩ : ∃ m, k = m + 5 := ⟨k - 5, by omega⟩
      rw [Less_round a b i j ha hb hi hj k, keys_step a i hi, keys_step b j hj, lex]
      by_cases e : key a i = key b j
      · rw [if_pos e, if_pos e, ih _ _ (by omega)]
      · rw [if_neg e, if_neg e]
    · obtain ⟨k, rfl⟩ : ∃ m, k = m + 2 := ⟨k - 2, by omega⟩
      have na : ¬ (a.extract i a.size).toList = [] := fun h => by have := (nil_tail a i).1 h; omega
      have eb := (nil_tail b j).2 (by omega)
      rw [runes_Less.l0, if_neg na, runes_Less.j1, eb, if_neg (by simp), if_neg na, keys_end b j (by omega), keys_step a i hi]
      rfl

theorem whole (s : ByteArray) : s.extract 0 s.size = s := by simp
/-- WHAT runes.Less COMPUTES. -/
theorem Less_eq (a b : ByteArray) (ha : a.size ≤ 140737488351232) (hb : b.size ≤ 140737488351232) (k : Nat) (hk : 5 * a.size + 2 ≤ k) : runes_Less.f k a b = some (lex (keys a 0) (keys b 0)) := by
  have := Less_loop a b ha hb 0 0 k (by omega)
  rw [whole, whole] at this
  exact this

end Go.Proofs.YtglaagoblcpggaaDoor.R
end

section
set_option linter.unusedVariables false
set_option linter.unusedSimpArgs false
namespace Go.Proofs.YtglaagoblcpggaaDoor.R
open Go.RowKit Go.Proofs.YtglaagoblcpggaaDoorW.PrintWords

theorem alive_now (k : Nat) (hk : 7 ≤ k) : cognatelaw01_alive.f k = some true := by
  have hl := Less_eq ⟨#[97]⟩ ⟨#[98]⟩ (by decide) (by decide) k hk
  unfold cognatelaw01_alive.f
  have h1 : runes_Pieces.f (⟨#[97, 255]⟩ : ByteArray) = some ([⟨97, 0, 1, false⟩, ⟨65533, 1, 1, true⟩], 0) := by rfl
  have h2 : runes_Quote.f (⟨#[97, 255]⟩ : ByteArray) = some (⟨#[34, 97, 92, 120, 102, 102, 34]⟩, 0) := by rfl
  have h3 : runes_Text.f [97] = some (⟨#[97]⟩) := by rfl
  rw [h1, Option.bind_some, h2, Option.bind_some]
  simp only
  rw [if_pos trivial, if_pos (by decide), if_pos (by decide), if_pos (by decide), if_pos (by decide), if_pos (by decide), if_pos trivial, if_pos (by rw [Lib.toList_data]), h3, Option.bind_some, if_pos (by rw [Lib.toList_data]), hl]
  rfl

theorem wrong_of (a : ByteArray) (at_ : Int) (h : runes_Plain.f a = some (⟨#[]⟩, at_, 10)) : cognatelaw01_wrong.f a at_ = some true := by
  unfold cognatelaw01_wrong.f
  rw [h, Option.bind_some, if_pos (by rw [Lib.toList_data]), if_pos rfl]
  rfl
theorem names_j2 (k : Nat) (hk : 7 ≤ k) : cognatelaw01_RunesNames.j2 (k + 1) true true true = some true := by
  rw [cognatelaw01_RunesNames.j2, alive_now k hk, Option.bind_some, if_pos rfl, if_pos rfl, if_pos rfl]
theorem names_j1 (k : Nat) (hk : 60 ≤ k) : cognatelaw01_RunesNames.j1 (k + 1) true true = some true := by
  obtain ⟨k, rfl⟩ : ∃ m, k = m + 1 := ⟨k - 1, by omega⟩
  have w1 : cognatelaw01_wrong.f (⟨#[34, 97, 92, 120, 52, 49, 34]⟩ : ByteArray) 2 = some true := wrong_of _ _ (by kernel_rfl)
  have w2 : cognatelaw01_wrong.f (⟨#[34, 97]⟩ : ByteArray) 2 = some true := wrong_of _ _ (by kernel_rfl)
  have w3 : cognatelaw01_wrong.f (⟨#[97]⟩ : ByteArray) 0 = some true := wrong_of _ _ (by kernel_rfl)
  have w4 : cognatelaw01_wrong.f (⟨#[34, 92, 120, 99, 51, 92, 120, 97, 57, 34]⟩ : ByteArray) 0 = some true := wrong_of _ _ (by kernel_rfl)
  have w5 : cognatelaw01_wrong.f (⟨#[34, 92, 117, 48, 101, 57, 59, 34]⟩ : ByteArray) 1 = some true := wrong_of _ _ (by kernel_rfl)
  have l1 : runes_Less.f (k + 1) (⟨#[97]⟩ : ByteArray) (⟨#[98]⟩ : ByteArray) = some true := (Less_eq _ _ (by decide) (by decide) _ (by show 5 * 1 + 2 ≤ k + 1; omega)).trans (by kernel_rfl)
  have l2 : runes_Less.f (k + 1) (⟨#[97]⟩ : ByteArray) (⟨#[97, 98]⟩ : ByteArray) = some true := (Less_eq _ _ (by decide) (by decide) _ (by show 5 * 1 + 2 ≤ k + 1; omega)).trans (by kernel_rfl)
  have l3 : runes_Less.f (k + 1) (⟨#[244, 143, 191, 191]⟩ : ByteArray) (⟨#[128]⟩ : ByteArray) = some true := (Less_eq _ _ (by decide) (by decide) _ (by show 5 * 4 + 2 ≤ k + 1; omega)).trans (by kernel_rfl)
  have l4 : runes_Less.f (k + 1) (⟨#[98]⟩ : ByteArray) (⟨#[97]⟩ : ByteArray) = some false := (Less_eq _ _ (by decide) (by decide) _ (by show 5 * 1 + 2 ≤ k + 1; omega)).trans (by kernel_rfl)
  rw [cognatelaw01_RunesNames.j1, w1, Option.bind_some, if_pos rfl, w2, Option.bind_some, if_pos rfl, w3, Option.bind_some, if_pos rfl, w4, Option.bind_some, if_pos rfl, w5, Option.bind_some, if_pos rfl, l1, Option.bind_some, if_pos rfl, l2, Option.bind_some, if_pos rfl, l3, Option.bind_some, if_pos rfl, l4, Option.bind_some]
  exact names_j2 k (by omega)
theorem names_j0 (k : Nat) (hk : 70 ≤ k) : cognatelaw01_RunesNames.j0 (k + 1) true = some true := by
  obtain ⟨k, rfl⟩ : ∃ m, k = m + 1 := ⟨k - 1, by omega⟩
  have p1 : runes_Part.f (⟨#[97, 195, 169, 255, 98]⟩ : ByteArray) 1 3 = some (⟨#[195, 169, 255]⟩, 0) := by kernel_rfl
  have p2 : runes_Part.f (⟨#[97, 195, 169, 255, 98]⟩ : ByteArray) 3 2 = some (⟨#[]⟩, 10) := by kernel_rfl
  have p3 : runes_Part.f (⟨#[97, 195, 169, 255, 98]⟩ : ByteArray) 0 5 = some (⟨#[]⟩, 10) := by kernel_rfl
  have q1 : runes_Quote.f (⟨#[97, 195, 169, 255, 98]⟩ : ByteArray) = some (⟨#[34, 97, 92, 117, 101, 57, 59, 92, 120, 102, 102, 98, 34]⟩, 0) := by kernel_rfl
  have q2 : runes_Quote.f (⟨#[97, 34, 98, 10]⟩ : ByteArray) = some (⟨#[34, 97, 92, 34, 98, 92, 117, 97, 59, 34]⟩, 0) := by kernel_rfl
  have t1 : runes_Text.f [55296, 98] = some (⟨#[239, 191, 189, 98]⟩) := by kernel_rfl
  have t2 : runes_Text.f [-1] = some (⟨#[239, 191, 189]⟩) := by kernel_rfl
  rw [cognatelaw01_RunesNames.j0, p1, Option.bind_some, p2, Option.bind_some, p3, Option.bind_some, q1, Option.bind_some, q2, Option.bind_some]
  simp only [if_true]
  rw [if_pos (by rw [Lib.toList_data]), if_pos (by rw [Lib.toList_data]), if_pos (by rw [Lib.toList_data]), t1, Option.bind_some, if_pos (by rw [Lib.toList_data]), t2, Option.bind_some, Lib.toList_data]
  exact names_j1 k (by omega)
theorem RunesNames_pure : cognatelaw01_RunesNames.Pure := by
  refine ⟨100, ?_⟩
  have h1 : runes_Pieces.f (⟨#[97, 195, 169, 255, 98]⟩ : ByteArray) = some ([⟨97, 0, 1, false⟩, ⟨233, 1, 2, false⟩, ⟨65533, 3, 1, true⟩, ⟨98, 4, 1, false⟩], 0) := by kernel_rfl
  have h2 : runes_Len.f (⟨#[97, 195, 169, 255, 98]⟩ : ByteArray) = some (4, 0) := by kernel_rfl
  have h3 : runes_Broken.f (⟨#[97, 195, 169, 255, 98]⟩ : ByteArray) = some (3, 0) := by kernel_rfl
  have h4 : runes_Broken.f (⟨#[97]⟩ : ByteArray) = some (-1, 0) := by kernel_rfl
  unfold cognatelaw01_RunesNames.f
  rw [h1, Option.bind_some, h2, Option.bind_some, h3, Option.bind_some, h4, Option.bind_some]
  have e : cognatelaw01_RunesNames.j0 100 true = some true := names_j0 99 (by omega)
  simp only [if_true]
  rw [if_pos (by decide), if_pos (by decide), if_pos (by decide), if_pos (by decide), if_pos (by decide), if_pos (by decide), if_pos (by decide)]
  exact e
end Go.Proofs.YtglaagoblcpggaaDoor.R
end

section
namespace Go.Proofs.YtglaagoblcpggaaDoor.R
open Go.RowKit

theorem own : ownKnob Tryd.prog.godebug = none := by kernel_rfl
theorem first_eq : (Go.Pinned.utf8First : DataW Unit) = Lib.firstData := by kernel_rfl
theorem accept_eq : (Rows.laid_unicode_utf8_acceptRanges : DataW Unit) = Lib.acceptData := by kernel_rfl

/-- The settled world, the two tables holding what the library's text lays. -/
noncomputable def laidW (os : Os) : World :=
  let w0 := World.holding Tryd.prog os ⟨#[], #[], []⟩
  let put (h : Array Obj) (g : Nat) (cs : Array Value) : Array Obj := h.modify g fun
    | .cells _ t frozen => .cells cs t frozen
    | o => o
  let h1 := put w0.heap 0 (Lib.firstTab.map fun z => Value.int .u8 z).toArray
  let h2 := put h1 1 ((List.range 16).flatMap fun i => [Value.int .u8 (Lib.accLo i), Value.int .u8 (Lib.accHi i)]).toArray
  { w0 with heap := h2 }

abbrev laidU : List (String × DataW Unit) := [("unicode/utf8.acceptRanges", Rows.laid_unicode_utf8_acceptRanges), ("unicode/utf8.first", Rows.laid_unicode_utf8_first)]
theorem metU (os : Os) (args : Array Value) : laidMetH Tryd.prog laidU ((laidW os).forCall (fun _ _ => 0) ⟨#[], args, []⟩).memory := by
  rw [MakeChecks.laidMetH_plain _ _ _ (by kernel_rfl)]
  exact laidMet_of_run' 8 (by kernel_rfl) (by kernel_rfl)

theorem tabU_of_reads {W : World} (h3 : Lib.VarReads Tryd.prog W "unicode/utf8.first" Rows.laid_unicode_utf8_first) (h4 : Lib.VarReads Tryd.prog W "unicode/utf8.acceptRanges" Rows.laid_unicode_utf8_acceptRanges) : TabU W := by
  have e3 : (Rows.laid_unicode_utf8_first : DataW Unit) = Lib.firstData := first_eq
  rw [e3] at h3
  rw [accept_eq] at h4
  exact utf8Tabs_of_reads (ρ := Tryd.lays197_ren) { Tryd.lays197 with } ⟨by kernel_rfl, by kernel_rfl, by kernel_rfl, by kernel_rfl, by kernel_rfl, by kernel_rfl, by kernel_rfl⟩ h3 h4
theorem tabU_of {W : World} (h : laidMetH Tryd.prog laidU W) : TabU W := by
  rw [MakeChecks.laidMetH_plain _ _ _ (by kernel_rfl)] at h
  exact tabU_of_reads (Lib.laidMet.reads h (.tail _ (.head _))) (Lib.laidMet.reads h (.head _))

end Go.Proofs.YtglaagoblcpggaaDoor.R
end

section
set_option linter.unusedVariables false
namespace Go.Proofs.YtglaagoblcpggaaDoor.R
open Go.RowKit

/-- The world as the program's own initialisers lay it; 'first', which none lays, as the library's text has it. -/
noncomputable def laidWE (os : Os) : World :=
  let w0 := World.doorLaid Tryd.prog 4000 os
  { w0 with heap := w0.heap.modify 0 fun
    | .cells _ t frozen => .cells (Lib.firstTab.map fun z => Value.int .u8 z).toArray t frozen
    | o => o }

abbrev laidN : List (String × DataW Unit) := [("math/bits.deBruijn32tab", Rows.laid_math_bits_deBruijn32tab), ("math/bits.deBruijn64tab", Rows.laid_math_bits_deBruijn64tab), ("internal/strconv.uint64pow10", Rows.laid_internal_strconv_uint64pow10), ("unicode/utf8.acceptRanges", Rows.laid_unicode_utf8_acceptRanges), ("unicode/utf8.first", Rows.laid_unicode_utf8_first)]
abbrev laidE : List (String × DataW Unit) := [("math/bits.deBruijn32tab", Rows.laid_math_bits_deBruijn32tab), ("math/bits.deBruijn64tab", Rows.laid_math_bits_deBruijn64tab), ("internal/strconv.uint64pow10", Rows.laid_internal_strconv_uint64pow10), ("unicode/utf8.acceptRanges", Rows.laid_unicode_utf8_acceptRanges), ("strconv.ErrRange", Rows.laid_strconv_ErrRange), ("strconv.ErrSyntax", Rows.laid_strconv_ErrSyntax), ("unicode/utf8.first", Rows.laid_unicode_utf8_first)]
noncomputable abbrev laidWN := laidWE
theorem shapedE (os : Os) (args : Array Value) : ((laidWE os).forCall (fun _ _ => 0) ⟨#[], args, []⟩).Shaped Tryd.prog := World.shaped_of_RefB (by kernel_rfl) (by kernel_rfl)
theorem shapedN (os : Os) (args : Array Value) : ((laidWN os).forCall (fun _ _ => 0) ⟨#[], args, []⟩).Shaped Tryd.prog := shapedE os args
theorem metN (os : Os) (args : Array Value) : laidMetH Tryd.prog laidN ((laidWE os).forCall (fun _ _ => 0) ⟨#[], args, []⟩).memory := by
  rw [MakeChecks.laidMetH_plain _ _ _ (by kernel_rfl)]
  exact laidMet_of_run' 8 (by kernel_rfl) (by kernel_rfl)
theorem metE (os : Os) (args : Array Value) : laidMetH Tryd.prog laidE ((laidWE os).forCall (fun _ _ => 0) ⟨#[], args, []⟩).memory := by
  rw [MakeChecks.laidMetH_plain _ _ _ (by kernel_rfl)]
  exact laidMet_of_run' 8 (by kernel_rfl) (by kernel_rfl)

def bruijn64 : List Int := [0, 1, 56, 2, 57, 49, 28, 3, 61, 58, 42, 50, 38, 29, 17, 4, 62, 47, 59, 36, 45, 43, 51, 22, 53, 39, 33, 30, 24, 18, 12, 5, 63, 55, 48, 27, 60, 41, 37, 16, 46, 35, 44, 21, 52, 32, 23, 11, 54, 26, 40, 15, 34, 20, 31, 10, 25, 14, 19, 9, 13, 8, 7, 6]
theorem bruijn_eq : (Rows.laid_math_bits_deBruijn64tab : DataW Unit) = Lib.tabData .u8 bruijn64 := by kernel_rfl
theorem tabN_of_reads {W : World} (h : Lib.VarReads Tryd.prog W "math/bits.deBruijn64tab" Rows.laid_math_bits_deBruijn64tab) : TabN W := by
  rw [bruijn_eq] at h
  obtain ⟨g, t, cs, fuel, p, hg, hty, hvar, hd⟩ := h
  obtain rfl := Option.some.inj ((show Tryd.prog.globalNamed "math/bits.deBruijn64tab" = some 7 by kernel_rfl).symm.trans hg)
  obtain rfl := Option.some.inj ((show (Tryd.prog.globals[7]?).map (·.type) = some 128 by kernel_rfl).symm.trans hty)
  have hcs := Lib.cells_of_tab Tryd.underlying128 Tryd.underlying5 (by kernel_rfl) (by kernel_rfl) hd
  have := World.var?_cell hg hvar 15
  unfold TabN
  rw [this, ← Array.getElem?_toList, hcs]
  rfl
theorem tabU_ofN {W : World} (h : laidMetH Tryd.prog laidN W) : TabU W := by
  rw [MakeChecks.laidMetH_plain _ _ _ (by kernel_rfl)] at h
  exact tabU_of_reads (Lib.laidMet.reads h (by simp)) (Lib.laidMet.reads h (by simp))
theorem tabN_ofN {W : World} (h : laidMetH Tryd.prog laidN W) : TabN W := by
  rw [MakeChecks.laidMetH_plain _ _ _ (by kernel_rfl)] at h
  exact tabN_of_reads (Lib.laidMet.reads h (by simp))
theorem tabU_ofE {W : World} (h : laidMetH Tryd.prog laidE W) : TabU W := by
  rw [MakeChecks.laidMetH_plain _ _ _ (by kernel_rfl)] at h
  exact tabU_of_reads (Lib.laidMet.reads h (by simp)) (Lib.laidMet.reads h (by simp))
theorem tabN_ofE {W : World} (h : laidMetH Tryd.prog laidE W) : TabN W := by
  rw [MakeChecks.laidMetH_plain _ _ _ (by kernel_rfl)] at h
  exact tabN_of_reads (Lib.laidMet.reads h (by simp))
end Go.Proofs.YtglaagoblcpggaaDoor.R
end

section
set_option linter.unusedVariables false
namespace Go.Proofs.YtglaagoblcpggaaDoor.R
open Go.RowKit
theorem iface_of_reads {W : World} {n : String} {g : Nat} {name : String} {d : DataW Unit} (hg : Tryd.prog.globalNamed n = some g) (ht : (Tryd.prog.globals[g]?).map (·.type) = some 63) (h : Lib.VarReads Tryd.prog W n (.iface name d)) : ∃ te pe, W.cell? ⟨g, 0, none⟩ = some (.iface te pe) := by
  obtain ⟨g', t, cs, fuel, p, hg', hty, hvar, hd⟩ := h
  obtain rfl := Option.some.inj (hg.symm.trans hg')
  obtain rfl := Option.some.inj (ht.symm.trans hty)
  obtain ⟨_, u, v, hcs, _⟩ := iface_of_trod Tryd.underlying63 hd
  have := World.var?_cell hg hvar 0
  rw [← Array.getElem?_toList, hcs] at this
  exact ⟨u, v, this⟩
theorem tabE_ofE {W : World} (h : laidMetH Tryd.prog laidE W) : TabE W := by
  rw [MakeChecks.laidMetH_plain _ _ _ (by kernel_rfl)] at h
  exact ⟨iface_of_reads (by kernel_rfl) (by kernel_rfl) (Lib.laidMet.reads h (n := "strconv.ErrSyntax") (d := Rows.laid_strconv_ErrSyntax) (by simp)), iface_of_reads (by kernel_rfl) (by kernel_rfl) (Lib.laidMet.reads h (n := "strconv.ErrRange") (d := Rows.laid_strconv_ErrRange) (by simp))⟩
end Go.Proofs.YtglaagoblcpggaaDoor.R
end

section
set_option linter.unusedVariables false
namespace Go.Proofs.YtglaagoblcpggaaDoor.runesNames
open Go.ChangeShapes Go.WideShapes Go.ChangeAt Go.RowKit
open Go.ChangeMaps (open_string shut_string)
open Go.Proofs.YtglaagoblcpggaaDoor.R

set_option maxRecDepth 100000 in
theorem lifted (os : Os) (started : os.Started) (H : Type) (enc : TypeId × Value → H) :
    ReturnsInHanded {} Tryd.checked os 9 .any (fun w args => (Rows.runesNamesSpec.pre enc Tryd.prog Tryd.f9 [] false w args ∧ laidMetH Tryd.prog laidE w) ∧ sizedMet enc Tryd.prog Tryd.f9 (OpenSpec.ofChange Rows.runesNamesSpec) false w args) (Rows.runesNamesSpec.post enc Tryd.prog Tryd.f9 false true false false) := by
  refine returnsInHanded_of_change_and (C := Tryd.checked) (X := fun w _ => laidMetH Tryd.prog laidE w) (fun _ _ _ hh h => h.of_heap hh) own started (by kernel_rfl) Tryd.func9
    (ChangeSpec.witness_shaped (enc := enc) (C := Tryd.checked) (os := os) (X := fun w _ => laidMetH Tryd.prog laidE w) false (laidWE os) #[] 8 rfl (shapedE os _) (by kernel_rfl) (by kernel_rfl) (by kernel_rfl) (metE os _)) ?_
  intro W base args ds gs before hval0 hW _ hsz0 hL _
  have hsz : (DataW.weightsEach Tryd.prog (Tryd.f9.params.toList ++ Rows.runesNamesSpec.plain.varTypes Tryd.prog) (ds ++ gs)).all (· ≤ reachBytes) = true := hsz0
  have hval : ∀ (j : Nat) t v, Tryd.f9.params[j]? = some t → args[j]? = some v → Value.okWide Tryd.prog W .any base t v := hval0
  have hW' := hW
  obtain ⟨p, q, hA0, hV, rfl, hfz, hnd⟩ := hW
  have hA : DataW.TrodAll enc Tryd.prog W 0 (fun _ => true) true Tryd.f9.params.toList args.toList ds p := hA0
  rw [Tryd.params9] at hA hval hsz
  obtain ⟨rfl, rfl, rfl⟩ := trodAll_none hA
  obtain ⟨rfl, rfl⟩ := trodVars_none hV
  have hTU := tabU_ofE hL
  have hTN := tabN_ofE hL
  have hTE := tabE_ofE hL
  clear hA0 hval0 hsz0 hsz hL
  refine (cognatelaw01_RunesNames.walk RunesNames_pure  W hTU hTN hTE ).mono fun e W' ⟨he, bel⟩ => ?_
  subst he
  exact ⟨_, rfl, _, _, _, [], _, [], hW', trodAll_mk1 (shut_bool Tryd.underlying4 _), trodAll_mk0, rfl, bel.frame _, fun h => by cases h⟩

theorem over : Rows.RunesNamesSaid :=
  OpenClaim.holds_of_wide 9 Tryd.f9 rfl rfl rfl rfl rfl rfl rfl ⟨rfl, rfl, rfl, rfl, rfl⟩ rfl rfl rfl rfl rfl (by kernel_rfl) Tryd.func9 (by kernel_rfl)
    (of_decide_eq_true (by kernel_rfl)) (by unfold Func.isWrapper; first | (rw [if_pos (by decide +kernel)]; kernel_rfl) | (rw [if_neg (by decide +kernel)]; exact ⟨rfl, rfl⟩))
    (fun os started H enc _ => lifted os started H enc)

/-- The tied card. -/
theorem proved : Rows.RunesNamesCardSaid :=
  Claim7.holds_tied_plain_at .later [] [.data, .data, .data, .data, .sentinel, .sentinel, .pinned] true (true, "ed7fd6e25a07849abb3a1694c84ccb4cce39eaac69888740cb1fd0969a465add") true
    over (fun _ h => by cases h) (by kernel_rfl) (fun _ h => by cases h) runesNames_row_tie rfl ⟨rfl, rfl⟩ (by kernel_rfl) rfl
    (fun f fn hf hfn => by
      obtain rfl : f = 9 := Option.some.inj ((show Tryd.prog.funcNamed "cognate/cognatelaw01.RunesNames" = some 9 by kernel_rfl).symm.trans hf) |>.symm
      obtain rfl : fn = Tryd.f9 := (Option.some.inj (Tryd.func9.symm.trans hfn)).symm
      exact ⟨by kernel_rfl, fun j t ht => by
        rw [Tryd.params9] at ht
        simp at ht⟩)
    (by kernel_rfl)
#print axioms proved
end Go.Proofs.YtglaagoblcpggaaDoor.runesNames
end
