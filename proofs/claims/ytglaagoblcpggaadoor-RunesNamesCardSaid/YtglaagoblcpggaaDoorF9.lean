-- Written by my program oprint.py (a driver round the kit's printer) out of the translation. Lean checks it.
import Derived.Test.YtglaagoblcpggaaDoorK
import Derived.Test.YtglaagoblcpggaaDoorE35
import Derived.Test.YtglaagoblcpggaaDoorF10
import Derived.Test.YtglaagoblcpggaaDoorF15
import Derived.Test.YtglaagoblcpggaaDoorF24
import Derived.Test.YtglaagoblcpggaaDoorF27
import Derived.Test.YtglaagoblcpggaaDoorF32
import Derived.Test.YtglaagoblcpggaaDoorHB
import Derived.Test.YtglaagoblcpggaaDoorHP
import Derived.Test.YtglaagoblcpggaaDoorHQ
import Derived.Test.YtglaagoblcpggaaDoorHT
import Derived.Test.YtglaagoblcpggaaDoorHY
import Derived.Test.YtglaagoblcpggaaDoorTabs
namespace Go.Proofs.YtglaagoblcpggaaDoor.R
open Go.RowKit Go.Proofs.YtglaagoblcpggaaDoorW.PrintWords Go.Proofs.YtglaagoblcpggaaDoorW.PrintLast Go.Proofs.YtglaagoblcpggaaDoorW.PrintMore
attribute [local go_sem] max2_int min2_int max_two min_two max_three min_three max_four min_four   -- for this text's walks alone
set_option linter.unusedVariables false
set_option linter.unusedSimpArgs false

attribute [local go_sem high] eqA35
/-! ### cognatelaw01_RunesNames: function 9 -/
mutual
def cognatelaw01_RunesNames.j0 : Nat → Bool → Option (Bool)
  | 0, _ => none
  | k + 1, x9 => (runes_Part.f (⟨#[97, 195, 169, 255, 98]⟩ : ByteArray) 1 3).bind fun bt114 => ((runes_Part.f (⟨#[97, 195, 169, 255, 98]⟩ : ByteArray) 3 2).bind fun bt116 => ((runes_Part.f (⟨#[97, 195, 169, 255, 98]⟩ : ByteArray) 0 5).bind fun bt118 => ((runes_Quote.f (⟨#[97, 195, 169, 255, 98]⟩ : ByteArray)).bind fun bt120 => ((runes_Quote.f (⟨#[97, 34, 98, 10]⟩ : ByteArray)).bind fun bt122 => (if bt114.2 = 0 then (if bt114.1.toList = ([195, 169, 255] : List UInt8) then (if bt116.2 = 10 then (if bt118.2 = 10 then (if bt120.2 = 0 then (if bt120.1.toList = ([34, 97, 92, 117, 101, 57, 59, 92, 120, 102, 102, 98, 34] : List UInt8) then (if bt122.2 = 0 then (if bt122.1.toList = ([34, 97, 92, 34, 98, 92, 117, 97, 59, 34] : List UInt8) then ((runes_Text.f (([55296, 98] : List Int))).bind fun t127 => (if t127.toList = ([239, 191, 189, 98] : List UInt8) then ((runes_Text.f (([(-1)] : List Int))).bind fun t131 => (cognatelaw01_RunesNames.j1 k x9 (t131.toList == ([239, 191, 189] : List UInt8)))) else (cognatelaw01_RunesNames.j1 k x9 false))) else (cognatelaw01_RunesNames.j1 k x9 false)) else (cognatelaw01_RunesNames.j1 k x9 false)) else (cognatelaw01_RunesNames.j1 k x9 false)) else (cognatelaw01_RunesNames.j1 k x9 false)) else (cognatelaw01_RunesNames.j1 k x9 false)) else (cognatelaw01_RunesNames.j1 k x9 false)) else (cognatelaw01_RunesNames.j1 k x9 false)) else (cognatelaw01_RunesNames.j1 k x9 false))))))
def cognatelaw01_RunesNames.j1 : Nat → Bool → Bool → Option (Bool)
  | 0, _, _ => none
  | k + 1, x9, x20 => (cognatelaw01_wrong.f (⟨#[34, 97, 92, 120, 52, 49, 34]⟩ : ByteArray) 2).bind fun t132 => (if t132 = true then ((cognatelaw01_wrong.f (⟨#[34, 97]⟩ : ByteArray) 2).bind fun t133 => (if t133 = true then ((cognatelaw01_wrong.f (⟨#[97]⟩ : ByteArray) 0).bind fun t134 => (if t134 = true then ((cognatelaw01_wrong.f (⟨#[34, 92, 120, 99, 51, 92, 120, 97, 57, 34]⟩ : ByteArray) 0).bind fun t135 => (if t135 = true then ((cognatelaw01_wrong.f (⟨#[34, 92, 117, 48, 101, 57, 59, 34]⟩ : ByteArray) 1).bind fun t136 => (if t136 = true then ((runes_Less.f k (⟨#[97]⟩ : ByteArray) (⟨#[98]⟩ : ByteArray)).bind fun t137 => (if t137 = true then ((runes_Less.f k (⟨#[97]⟩ : ByteArray) (⟨#[97, 98]⟩ : ByteArray)).bind fun t138 => (if t138 = true then ((runes_Less.f k (⟨#[244, 143, 191, 191]⟩ : ByteArray) (⟨#[128]⟩ : ByteArray)).bind fun t139 => (if t139 = true then ((runes_Less.f k (⟨#[98]⟩ : ByteArray) (⟨#[97]⟩ : ByteArray)).bind fun t140 => (cognatelaw01_RunesNames.j2 k x9 x20 (!t140))) else (cognatelaw01_RunesNames.j2 k x9 x20 false))) else (cognatelaw01_RunesNames.j2 k x9 x20 false))) else (cognatelaw01_RunesNames.j2 k x9 x20 false))) else (cognatelaw01_RunesNames.j2 k x9 x20 false))) else (cognatelaw01_RunesNames.j2 k x9 x20 false))) else (cognatelaw01_RunesNames.j2 k x9 x20 false))) else (cognatelaw01_RunesNames.j2 k x9 x20 false))) else (cognatelaw01_RunesNames.j2 k x9 x20 false))
def cognatelaw01_RunesNames.j2 : Nat → Bool → Bool → Bool → Option (Bool)
  | 0, _, _, _ => none
  | k + 1, x9, x20, x21 => (cognatelaw01_alive.f k).bind fun t141 => (if t141 = true then (if x9 = true then (if x20 = true then (some x21) else (some false)) else (some false)) else (some false))
end
def cognatelaw01_RunesNames.f (k : Nat)  : Option (Bool) := (runes_Pieces.f (⟨#[97, 195, 169, 255, 98]⟩ : ByteArray)).bind fun bt101 => ((runes_Len.f (⟨#[97, 195, 169, 255, 98]⟩ : ByteArray)).bind fun bt105 => ((runes_Broken.f (⟨#[97, 195, 169, 255, 98]⟩ : ByteArray)).bind fun bt107 => ((runes_Broken.f (⟨#[97]⟩ : ByteArray)).bind fun bt109 => (if bt101.2 = 0 then (if (bt101.1.length : Int) = 4 then (if 1 < (bt101.1.length : Int) then (if (((rd_T35 bt101.1 1).f0) == 233 && (((rd_T35 bt101.1 1).f1) == 1 && (((rd_T35 bt101.1 1).f2) == 2 && (!((rd_T35 bt101.1 1).f3))))) = true then (if 2 < (bt101.1.length : Int) then (if (((rd_T35 bt101.1 2).f0) == 65533 && (((rd_T35 bt101.1 2).f1) == 3 && (((rd_T35 bt101.1 2).f2) == 1 && (((rd_T35 bt101.1 2).f3))))) = true then (if 3 < (bt101.1.length : Int) then (if (((rd_T35 bt101.1 3).f0) == 98 && (((rd_T35 bt101.1 3).f1) == 4 && (((rd_T35 bt101.1 3).f2) == 1 && (!((rd_T35 bt101.1 3).f3))))) = true then (if bt105.2 = 0 then (if bt105.1 = 4 then (if bt107.2 = 0 then (if bt107.1 = 3 then (if bt109.2 = 0 then (cognatelaw01_RunesNames.j0 k (bt109.1 == (-1))) else (cognatelaw01_RunesNames.j0 k false)) else (cognatelaw01_RunesNames.j0 k false)) else (cognatelaw01_RunesNames.j0 k false)) else (cognatelaw01_RunesNames.j0 k false)) else (cognatelaw01_RunesNames.j0 k false)) else (cognatelaw01_RunesNames.j0 k false)) else (none)) else (cognatelaw01_RunesNames.j0 k false)) else (none)) else (cognatelaw01_RunesNames.j0 k false)) else (none)) else (cognatelaw01_RunesNames.j0 k false)) else (cognatelaw01_RunesNames.j0 k false)))))
theorem cognatelaw01_RunesNames.mono_l : ∀ k, (∀ y0, LeO (cognatelaw01_RunesNames.j0 k y0) (cognatelaw01_RunesNames.j0 (k + 1) y0)) ∧ (∀ y0 y1, LeO (cognatelaw01_RunesNames.j1 k y0 y1) (cognatelaw01_RunesNames.j1 (k + 1) y0 y1)) ∧ (∀ y0 y1 y2, LeO (cognatelaw01_RunesNames.j2 k y0 y1 y2) (cognatelaw01_RunesNames.j2 (k + 1) y0 y1 y2))
  | 0 => ⟨fun _ r h => by simp [cognatelaw01_RunesNames.j0] at h, fun _ _ r h => by simp [cognatelaw01_RunesNames.j1] at h, fun _ _ _ r h => by simp [cognatelaw01_RunesNames.j2] at h⟩
  | k + 1 => by
    obtain ⟨ih0, ih1, ih2⟩ := cognatelaw01_RunesNames.mono_l k
    refine ⟨?_, ?_, ?_⟩
    · intro y0
      unfold cognatelaw01_RunesNames.j0
      repeat' first
      | (with_reducible exact ih0 _)
      | (with_reducible exact ih1 _ _)
      | (with_reducible exact ih2 _ _ _)
      | (with_reducible exact cognatelaw01_alive.mono _)
      | (with_reducible exact runes_Less.mono _ _ _)
      | (with_reducible exact LeO.refl _)
      | (with_reducible exact LeO.none _)
      | (with_reducible refine LeO.ite ?_ ?_)
      | (with_reducible refine LeO.bind ?_ (fun _ => ?_))
      | exact ih0 _
      | exact ih1 _ _
      | exact ih2 _ _ _
      | exact cognatelaw01_alive.mono _
      | exact runes_Less.mono _ _ _
      | exact LeO.none _
      | refine LeO.ite ?_ ?_
      | refine LeO.bind ?_ (fun _ => ?_)
    · intro y0 y1
      unfold cognatelaw01_RunesNames.j1
      repeat' first
      | (with_reducible exact ih0 _)
      | (with_reducible exact ih1 _ _)
      | (with_reducible exact ih2 _ _ _)
      | (with_reducible exact cognatelaw01_alive.mono _)
      | (with_reducible exact runes_Less.mono _ _ _)
      | (with_reducible exact LeO.refl _)
      | (with_reducible exact LeO.none _)
      | (with_reducible refine LeO.ite ?_ ?_)
      | (with_reducible refine LeO.bind ?_ (fun _ => ?_))
      | exact ih0 _
      | exact ih1 _ _
      | exact ih2 _ _ _
      | exact cognatelaw01_alive.mono _
      | exact runes_Less.mono _ _ _
      | exact LeO.none _
      | refine LeO.ite ?_ ?_
      | refine LeO.bind ?_ (fun _ => ?_)
    · intro y0 y1 y2
      unfold cognatelaw01_RunesNames.j2
      repeat' first
      | (with_reducible exact ih0 _)
      | (with_reducible exact ih1 _ _)
      | (with_reducible exact ih2 _ _ _)
      | (with_reducible exact cognatelaw01_alive.mono _)
      | (with_reducible exact runes_Less.mono _ _ _)
      | (with_reducible exact LeO.refl _)
      | (with_reducible exact LeO.none _)
      | (with_reducible refine LeO.ite ?_ ?_)
      | (with_reducible refine LeO.bind ?_ (fun _ => ?_))
      | exact ih0 _
      | exact ih1 _ _
      | exact ih2 _ _ _
      | exact cognatelaw01_alive.mono _
      | exact runes_Less.mono _ _ _
      | exact LeO.none _
      | refine LeO.ite ?_ ?_
      | refine LeO.bind ?_ (fun _ => ?_)
theorem cognatelaw01_RunesNames.mono : ∀ k, LeO (cognatelaw01_RunesNames.f k ) (cognatelaw01_RunesNames.f (k + 1) ) := by
  intro  k
  obtain ⟨ih0, ih1, ih2⟩ := cognatelaw01_RunesNames.mono_l k
  unfold cognatelaw01_RunesNames.f
  repeat' first
      | (with_reducible exact ih0 _)
      | (with_reducible exact ih1 _ _)
      | (with_reducible exact ih2 _ _ _)
      | (with_reducible exact cognatelaw01_alive.mono _)
      | (with_reducible exact runes_Less.mono _ _ _)
      | (with_reducible exact LeO.refl _)
      | (with_reducible exact LeO.none _)
      | (with_reducible refine LeO.ite ?_ ?_)
      | (with_reducible refine LeO.bind ?_ (fun _ => ?_))
      | exact ih0 _
      | exact ih1 _ _
      | exact ih2 _ _ _
      | exact cognatelaw01_alive.mono _
      | exact runes_Less.mono _ _ _
      | exact LeO.none _
      | refine LeO.ite ?_ ?_
      | refine LeO.bind ?_ (fun _ => ?_)
theorem bind_never {α : Type} {o : Option α} {f : α → Option Bool} (h : ∀ x, f x ≠ some true) : o.bind f ≠ some true := by
  cases o with
  | none => intro e; cases e
  | some x => exact h x
theorem ite_never {c : Prop} [Decidable c] {a b : Option Bool} (h1 : a ≠ some true) (h2 : b ≠ some true) : (if c then a else b) ≠ some true := by
  by_cases h : c
  · rw [if_pos h]; exact h1
  · rw [if_neg h]; exact h2
theorem nj2 (k : Nat) (a b c : Bool) (h : (a && b && c) = false) : cognatelaw01_RunesNames.j2 k a b c ≠ some true := by
  cases k with
  | zero => intro e; cases e
  | succ k =>
    rw [cognatelaw01_RunesNames.j2]
    refine bind_never (fun t => ?_)
    revert h
    cases t <;> cases a <;> cases b <;> cases c <;> simp
theorem never_2 (k : Nat) (a b : Bool) : cognatelaw01_RunesNames.j2 k a b false ≠ some true := nj2 k a b false (by cases a <;> cases b <;> rfl)
theorem nj1 (k : Nat) (a b : Bool) (h : (a && b) = false) : cognatelaw01_RunesNames.j1 k a b ≠ some true := by
  have h2 : ∀ k c, cognatelaw01_RunesNames.j2 k a b c ≠ some true := fun k c => nj2 k a b c (by rw [h]; rfl)
  cases k with
  | zero => intro e; cases e
  | succ k =>
    rw [cognatelaw01_RunesNames.j1]
    repeat' (first | (with_reducible exact h2 _ _) | (with_reducible refine bind_never (fun _ => ?_)) | (with_reducible refine ite_never ?_ ?_))
theorem never_1 (k : Nat) (a : Bool) : cognatelaw01_RunesNames.j1 k a false ≠ some true := nj1 k a false (by cases a <;> rfl)
theorem never_0 (k : Nat) : cognatelaw01_RunesNames.j0 k false ≠ some true := by
  have h2 : ∀ k c, cognatelaw01_RunesNames.j1 k false c ≠ some true := fun k c => nj1 k false c rfl
  cases k with
  | zero => intro e; cases e
  | succ k =>
    rw [cognatelaw01_RunesNames.j0]
    repeat' (first | (with_reducible exact h2 _ _) | (with_reducible refine bind_never (fun _ => ?_)) | (with_reducible refine ite_never ?_ ?_))
set_option maxHeartbeats 8000000 in
set_option maxRecDepth 100000 in
theorem cognatelaw01_RunesNames.calls (k : Nat)  (w : World) (hTU : TabU w) (hTN : TabN w) (hTE : TabE w) (h : cognatelaw01_RunesNames.f k  = some true) :
    Calls Tryd.prog 9 #[] w fun e w' => e = .returned (.bool true) ∧ Below w.heap.size w w' := by
  have hu35 := Tryd.underlying35
  have HB := Aside0.mk (Below.refl w.heap.size w)
  have H : ((runes_Pieces.f (⟨#[97, 195, 169, 255, 98]⟩ : ByteArray)).bind fun bt101 => ((runes_Len.f (⟨#[97, 195, 169, 255, 98]⟩ : ByteArray)).bind fun bt105 => ((runes_Broken.f (⟨#[97, 195, 169, 255, 98]⟩ : ByteArray)).bind fun bt107 => ((runes_Broken.f (⟨#[97]⟩ : ByteArray)).bind fun bt109 => (if bt101.2 = 0 then (if (bt101.1.length : Int) = 4 then (if 1 < (bt101.1.length : Int) then (if (((rd_T35 bt101.1 1).f0) == 233 && (((rd_T35 bt101.1 1).f1) == 1 && (((rd_T35 bt101.1 1).f2) == 2 && (!((rd_T35 bt101.1 1).f3))))) = true then (if 2 < (bt101.1.length : Int) then (if (((rd_T35 bt101.1 2).f0) == 65533 && (((rd_T35 bt101.1 2).f1) == 3 && (((rd_T35 bt101.1 2).f2) == 1 && (((rd_T35 bt101.1 2).f3))))) = true then (if 3 < (bt101.1.length : Int) then (if (((rd_T35 bt101.1 3).f0) == 98 && (((rd_T35 bt101.1 3).f1) == 4 && (((rd_T35 bt101.1 3).f2) == 1 && (!((rd_T35 bt101.1 3).f3))))) = true then (if bt105.2 = 0 then (if bt105.1 = 4 then (if bt107.2 = 0 then (if bt107.1 = 3 then (if bt109.2 = 0 then (cognatelaw01_RunesNames.j0 k (bt109.1 == (-1))) else (cognatelaw01_RunesNames.j0 k false)) else (cognatelaw01_RunesNames.j0 k false)) else (cognatelaw01_RunesNames.j0 k false)) else (cognatelaw01_RunesNames.j0 k false)) else (cognatelaw01_RunesNames.j0 k false)) else (cognatelaw01_RunesNames.j0 k false)) else (none)) else (cognatelaw01_RunesNames.j0 k false)) else (none)) else (cognatelaw01_RunesNames.j0 k false)) else (none)) else (cognatelaw01_RunesNames.j0 k false)) else (cognatelaw01_RunesNames.j0 k false)))))) = some true := h
  clear h
  have HTU := Aside0.mk hTU
  clear hTU
  have HTN := Aside0.mk hTN
  clear hTN
  have HTE := Aside0.mk hTE
  clear hTE
  replace H := Option.bind_eq_some_iff.mp H
  obtain ⟨⟨t101, t102⟩, A10, H⟩ := H
  replace H : ((runes_Len.f (⟨#[97, 195, 169, 255, 98]⟩ : ByteArray)).bind fun bt105 => ((runes_Broken.f (⟨#[97, 195, 169, 255, 98]⟩ : ByteArray)).bind fun bt107 => ((runes_Broken.f (⟨#[97]⟩ : ByteArray)).bind fun bt109 => (if t102 = 0 then (if (t101.length : Int) = 4 then (if 1 < (t101.length : Int) then (if (((rd_T35 t101 1).f0) == 233 && (((rd_T35 t101 1).f1) == 1 && (((rd_T35 t101 1).f2) == 2 && (!((rd_T35 t101 1).f3))))) = true then (if 2 < (t101.length : Int) then (if (((rd_T35 t101 2).f0) == 65533 && (((rd_T35 t101 2).f1) == 3 && (((rd_T35 t101 2).f2) == 1 && (((rd_T35 t101 2).f3))))) = true then (if 3 < (t101.length : Int) then (if (((rd_T35 t101 3).f0) == 98 && (((rd_T35 t101 3).f1) == 4 && (((rd_T35 t101 3).f2) == 1 && (!((rd_T35 t101 3).f3))))) = true then (if bt105.2 = 0 then (if bt105.1 = 4 then (if bt107.2 = 0 then (if bt107.1 = 3 then (if bt109.2 = 0 then (cognatelaw01_RunesNames.j0 k (bt109.1 == (-1))) else (cognatelaw01_RunesNames.j0 k false)) else (cognatelaw01_RunesNames.j0 k false)) else (cognatelaw01_RunesNames.j0 k false)) else (cognatelaw01_RunesNames.j0 k false)) else (cognatelaw01_RunesNames.j0 k false)) else (cognatelaw01_RunesNames.j0 k false)) else (none)) else (cognatelaw01_RunesNames.j0 k false)) else (none)) else (cognatelaw01_RunesNames.j0 k false)) else (none)) else (cognatelaw01_RunesNames.j0 k false)) else (cognatelaw01_RunesNames.j0 k false))))) = some true := H
  have A1 := Aside0.mk A10
  clear A10
  replace H := Option.bind_eq_some_iff.mp H
  obtain ⟨⟨t105, t106⟩, A20, H⟩ := H
  replace H : ((runes_Broken.f (⟨#[97, 195, 169, 255, 98]⟩ : ByteArray)).bind fun bt107 => ((runes_Broken.f (⟨#[97]⟩ : ByteArray)).bind fun bt109 => (if t102 = 0 then (if (t101.length : Int) = 4 then (if 1 < (t101.length : Int) then (if (((rd_T35 t101 1).f0) == 233 && (((rd_T35 t101 1).f1) == 1 && (((rd_T35 t101 1).f2) == 2 && (!((rd_T35 t101 1).f3))))) = true then (if 2 < (t101.length : Int) then (if (((rd_T35 t101 2).f0) == 65533 && (((rd_T35 t101 2).f1) == 3 && (((rd_T35 t101 2).f2) == 1 && (((rd_T35 t101 2).f3))))) = true then (if 3 < (t101.length : Int) then (if (((rd_T35 t101 3).f0) == 98 && (((rd_T35 t101 3).f1) == 4 && (((rd_T35 t101 3).f2) == 1 && (!((rd_T35 t101 3).f3))))) = true then (if t106 = 0 then (if t105 = 4 then (if bt107.2 = 0 then (if bt107.1 = 3 then (if bt109.2 = 0 then (cognatelaw01_RunesNames.j0 k (bt109.1 == (-1))) else (cognatelaw01_RunesNames.j0 k false)) else (cognatelaw01_RunesNames.j0 k false)) else (cognatelaw01_RunesNames.j0 k false)) else (cognatelaw01_RunesNames.j0 k false)) else (cognatelaw01_RunesNames.j0 k false)) else (cognatelaw01_RunesNames.j0 k false)) else (none)) else (cognatelaw01_RunesNames.j0 k false)) else (none)) else (cognatelaw01_RunesNames.j0 k false)) else (none)) else (cognatelaw01_RunesNames.j0 k false)) else (cognatelaw01_RunesNames.j0 k false)))) = some true := H
  have A2 := Aside0.mk A20
  clear A20
  replace H := Option.bind_eq_some_iff.mp H
  obtain ⟨⟨t107, t108⟩, A30, H⟩ := H
  replace H : ((runes_Broken.f (⟨#[97]⟩ : ByteArray)).bind fun bt109 => (if t102 = 0 then (if (t101.length : Int) = 4 then (if 1 < (t101.length : Int) then (if (((rd_T35 t101 1).f0) == 233 && (((rd_T35 t101 1).f1) == 1 && (((rd_T35 t101 1).f2) == 2 && (!((rd_T35 t101 1).f3))))) = true then (if 2 < (t101.length : Int) then (if (((rd_T35 t101 2).f0) == 65533 && (((rd_T35 t101 2).f1) == 3 && (((rd_T35 t101 2).f2) == 1 && (((rd_T35 t101 2).f3))))) = true then (if 3 < (t101.length : Int) then (if (((rd_T35 t101 3).f0) == 98 && (((rd_T35 t101 3).f1) == 4 && (((rd_T35 t101 3).f2) == 1 && (!((rd_T35 t101 3).f3))))) = true then (if t106 = 0 then (if t105 = 4 then (if t108 = 0 then (if t107 = 3 then (if bt109.2 = 0 then (cognatelaw01_RunesNames.j0 k (bt109.1 == (-1))) else (cognatelaw01_RunesNames.j0 k false)) else (cognatelaw01_RunesNames.j0 k false)) else (cognatelaw01_RunesNames.j0 k false)) else (cognatelaw01_RunesNames.j0 k false)) else (cognatelaw01_RunesNames.j0 k false)) else (cognatelaw01_RunesNames.j0 k false)) else (none)) else (cognatelaw01_RunesNames.j0 k false)) else (none)) else (cognatelaw01_RunesNames.j0 k false)) else (none)) else (cognatelaw01_RunesNames.j0 k false)) else (cognatelaw01_RunesNames.j0 k false))) = some true := H
  have A3 := Aside0.mk A30
  clear A30
  replace H := Option.bind_eq_some_iff.mp H
  obtain ⟨⟨t109, t110⟩, A40, H⟩ := H
  replace H : (if t102 = 0 then (if (t101.length : Int) = 4 then (if 1 < (t101.length : Int) then (if (((rd_T35 t101 1).f0) == 233 && (((rd_T35 t101 1).f1) == 1 && (((rd_T35 t101 1).f2) == 2 && (!((rd_T35 t101 1).f3))))) = true then (if 2 < (t101.length : Int) then (if (((rd_T35 t101 2).f0) == 65533 && (((rd_T35 t101 2).f1) == 3 && (((rd_T35 t101 2).f2) == 1 && (((rd_T35 t101 2).f3))))) = true then (if 3 < (t101.length : Int) then (if (((rd_T35 t101 3).f0) == 98 && (((rd_T35 t101 3).f1) == 4 && (((rd_T35 t101 3).f2) == 1 && (!((rd_T35 t101 3).f3))))) = true then (if t106 = 0 then (if t105 = 4 then (if t108 = 0 then (if t107 = 3 then (if t110 = 0 then (cognatelaw01_RunesNames.j0 k (t109 == (-1))) else (cognatelaw01_RunesNames.j0 k false)) else (cognatelaw01_RunesNames.j0 k false)) else (cognatelaw01_RunesNames.j0 k false)) else (cognatelaw01_RunesNames.j0 k false)) else (cognatelaw01_RunesNames.j0 k false)) else (cognatelaw01_RunesNames.j0 k false)) else (none)) else (cognatelaw01_RunesNames.j0 k false)) else (none)) else (cognatelaw01_RunesNames.j0 k false)) else (none)) else (cognatelaw01_RunesNames.j0 k false)) else (cognatelaw01_RunesNames.j0 k false)) = some true := H
  have A4 := Aside0.mk A40
  clear A40
  have HC5 := Aside0.mk H
  clear H
  go_enter Tryd.func9, Tryd.ntmps9
  go_upto_region 5 with (first | ((with_reducible refine gate_callee (f := 13) rfl ?_); refine goesL_ (some 23) rfl rfl Tryd.func13 (by kernel_rfl) rfl #[.string (⟨#[97, 195, 169, 255, 98]⟩ : ByteArray)] rfl (by (try simp only [List.map_toArray, List.map_cons, List.map_nil]); first | done | rfl | (simp only [List.length_drop, List.length_take]; rfl)) ?_; (with_reducible refine (runes_Pieces.calls (⟨#[97, 195, 169, 255, 98]⟩ : ByteArray) t101 t102 _ ?side1 A1.out).mono ?_); (case side1 => exact TabU.below HTU.out (by repeat (first | (with_reducible first | exact HB.out | apply below_alloc | apply pw_below_drewN | apply below_drew1) | exact HB.out))); rintro e w6 ⟨v103, rfl, ho0, hb⟩; refine ⟨_, rfl, ?_⟩; have n0_ := Aside0.mk (Kd.R_lower ho0 (below_size (by repeat (first | (with_reducible first | exact HB.out | apply below_alloc | apply pw_below_drewN | apply below_drew1) | exact HB.out)))); have n1_ := Aside0.mk (below_step (by repeat (first | (with_reducible first | exact HB.out | apply below_alloc | apply pw_below_drewN | apply below_drew1) | exact HB.out)) hb); clear HB; have HO104 := n0_; have HB := n1_; clear n0_ n1_; (try clear hb); (try clear hb2); (try clear hk); (try clear hi); (try clear ho0)) | ((with_reducible refine gate_callee (f := 15) rfl ?_); refine goesL_ (some 27) rfl rfl Tryd.func15 (by kernel_rfl) rfl #[.string (⟨#[97, 195, 169, 255, 98]⟩ : ByteArray)] rfl (by (try simp only [List.map_toArray, List.map_cons, List.map_nil]); first | done | rfl | (simp only [List.length_drop, List.length_take]; rfl)) ?_; (with_reducible refine (runes_Len.calls (⟨#[97, 195, 169, 255, 98]⟩ : ByteArray) t105 t106 _ A2.out).mono ?_); rintro e w7 ⟨rfl, hb⟩; refine ⟨_, rfl, ?_⟩; have n0_ := Aside0.mk (Kd.R_below (by (with_reducible repeat (first | apply Kd.R_alloc | apply Kd.R_drewN | apply Kd.R_drew)); exact HO104.out) hb); have n1_ := Aside0.mk (below_step (by repeat (first | (with_reducible first | exact HB.out | apply below_alloc | apply pw_below_drewN | apply below_drew1) | exact HB.out)) hb); clear HO104; clear HB; have HO104 := n0_; have HB := n1_; clear n0_ n1_; (try clear hb); (try clear hb2); (try clear hk); (try clear hi)) | ((with_reducible refine gate_callee (f := 17) rfl ?_); refine goesL_ (some 31) rfl rfl Tryd.func17 (by kernel_rfl) rfl #[.string (⟨#[97, 195, 169, 255, 98]⟩ : ByteArray)] rfl (by (try simp only [List.map_toArray, List.map_cons, List.map_nil]); first | done | rfl | (simp only [List.length_drop, List.length_take]; rfl)) ?_; (with_reducible refine (runes_Broken.calls (⟨#[97, 195, 169, 255, 98]⟩ : ByteArray) t107 t108 _ ?side1 A3.out).mono ?_); (case side1 => exact TabU.below HTU.out (by repeat (first | (with_reducible first | exact HB.out | apply below_alloc | apply pw_below_drewN | apply below_drew1) | exact HB.out))); rintro e w8 ⟨rfl, hb⟩; refine ⟨_, rfl, ?_⟩; have n0_ := Aside0.mk (Kd.R_below (by (with_reducible repeat (first | apply Kd.R_alloc | apply Kd.R_drewN | apply Kd.R_drew)); exact HO104.out) hb); have n1_ := Aside0.mk (below_step (by repeat (first | (with_reducible first | exact HB.out | apply below_alloc | apply pw_below_drewN | apply below_drew1) | exact HB.out)) hb); clear HO104; clear HB; have HO104 := n0_; have HB := n1_; clear n0_ n1_; (try clear hb); (try clear hb2); (try clear hk); (try clear hi)) | ((with_reducible refine gate_callee (f := 17) rfl ?_); refine goesL_ (some 35) rfl rfl Tryd.func17 (by kernel_rfl) rfl #[.string (⟨#[97]⟩ : ByteArray)] rfl (by (try simp only [List.map_toArray, List.map_cons, List.map_nil]); first | done | rfl | (simp only [List.length_drop, List.length_take]; rfl)) ?_; (with_reducible refine (runes_Broken.calls (⟨#[97]⟩ : ByteArray) t109 t110 _ ?side1 A4.out).mono ?_); (case side1 => exact TabU.below HTU.out (by repeat (first | (with_reducible first | exact HB.out | apply below_alloc | apply pw_below_drewN | apply below_drew1) | exact HB.out))); rintro e w9 ⟨rfl, hb⟩; refine ⟨_, rfl, ?_⟩; have n0_ := Aside0.mk (Kd.R_below (by (with_reducible repeat (first | apply Kd.R_alloc | apply Kd.R_drewN | apply Kd.R_drew)); exact HO104.out) hb); have n1_ := Aside0.mk (below_step (by repeat (first | (with_reducible first | exact HB.out | apply below_alloc | apply pw_below_drewN | apply below_drew1) | exact HB.out)) hb); clear HO104; clear HB; have HO104 := n0_; have HB := n1_; clear n0_ n1_; (try clear hb); (try clear hb2); (try clear hk); (try clear hi)))
  (try simp only [Act.put, List.setIfInBounds_toArray, List.set_cons_zero, List.set_cons_succ])
  go_cut [9] (fun v9 wc => ∃ (kq : Nat) (x9_4 : Bool), v9 = .bool x9_4 ∧ Aside0 (cognatelaw01_RunesNames.j0 kq x9_4 = some true) ∧ Aside0 (kq ≤ k) ∧ Aside0 (Below w.heap.size w wc))
  case first =>
   as_aux_lemma =>
     have H := HC5.out
     clear HC5
     by_cases c10 : t102 = 0
     · rw [if_pos c10] at H
       have c10b0 : (t102 == 0) = true := beq_iff_eq.mpr c10
       have c10b1 : (t102 != 0) = false := bne_eq_false_iff_eq.mpr c10
       clear c10
       (first | rw [c10b0] | (simp only [i64_w, i32_w]; rw [c10b0]) | skip)
       by_cases c11 : (t101.length : Int) = 4
       · rw [if_pos c11] at H
         have c11b0 : ((t101.length : Int) == 4) = true := beq_iff_eq.mpr c11
         have c11b1 : ((t101.length : Int) != 4) = false := bne_eq_false_iff_eq.mpr c11
         clear c11
         by_cases c12 : 1 < (t101.length : Int)
         · rw [if_pos c12] at H
           have c12b0 : decide (1 < (t101.length : Int)) = true := decide_eq_true c12
           have c12b1 : decide (1 < t101.length) = true := decide_eq_true (by omega)
           clear c12
           by_cases c13 : (((rd_T35 t101 1).f0) == 233 && (((rd_T35 t101 1).f1) == 1 && (((rd_T35 t101 1).f2) == 2 && (!((rd_T35 t101 1).f3))))) = true
           · rw [if_pos c13] at H
             have c13b0 : (((rd_T35 t101 1).f0) == 233 && (((rd_T35 t101 1).f1) == 1 && (((rd_T35 t101 1).f2) == 2 && (!((rd_T35 t101 1).f3))))) = true := c13
             (try (have c13b1 : decide (((rd_T35 t101 1).f0) = 233 && (((rd_T35 t101 1).f1) == 1 && (((rd_T35 t101 1).f2) == 2 && (!((rd_T35 t101 1).f3))))) = true := by simpa using c13))
             (try (have c13b2 : (((rd_T35 t101 1).f0) == 233 && (((rd_T35 t101 1).f1) == 1 && (((rd_T35 t101 1).f2) == 2 && (!((rd_T35 t101 1).f3))))) = true := by simpa using c13))
             clear c13
             by_cases c14 : 2 < (t101.length : Int)
             · rw [if_pos c14] at H
               have c14b0 : decide (2 < (t101.length : Int)) = true := decide_eq_true c14
               have c14b1 : decide (2 < t101.length) = true := decide_eq_true (by omega)
               clear c14
               by_cases c15 : (((rd_T35 t101 2).f0) == 65533 && (((rd_T35 t101 2).f1) == 3 && (((rd_T35 t101 2).f2) == 1 && (((rd_T35 t101 2).f3))))) = true
               · rw [if_pos c15] at H
                 have c15b0 : (((rd_T35 t101 2).f0) == 65533 && (((rd_T35 t101 2).f1) == 3 && (((rd_T35 t101 2).f2) == 1 && (((rd_T35 t101 2).f3))))) = true := c15
                 (try (have c15b1 : decide (((rd_T35 t101 2).f0) = 65533 && (((rd_T35 t101 2).f1) == 3 && (((rd_T35 t101 2).f2) == 1 && (((rd_T35 t101 2).f3))))) = true := by simpa using c15))
                 (try (have c15b2 : (((rd_T35 t101 2).f0) == 65533 && (((rd_T35 t101 2).f1) == 3 && (((rd_T35 t101 2).f2) == 1 && (((rd_T35 t101 2).f3))))) = true := by simpa using c15))
                 clear c15
                 by_cases c16 : 3 < (t101.length : Int)
                 · rw [if_pos c16] at H
                   have c16b0 : decide (3 < (t101.length : Int)) = true := decide_eq_true c16
                   have c16b1 : decide (3 < t101.length) = true := decide_eq_true (by omega)
                   clear c16
                   by_cases c17 : (((rd_T35 t101 3).f0) == 98 && (((rd_T35 t101 3).f1) == 4 && (((rd_T35 t101 3).f2) == 1 && (!((rd_T35 t101 3).f3))))) = true
                   · rw [if_pos c17] at H
                     have c17b0 : (((rd_T35 t101 3).f0) == 98 && (((rd_T35 t101 3).f1) == 4 && (((rd_T35 t101 3).f2) == 1 && (!((rd_T35 t101 3).f3))))) = true := c17
                     (try (have c17b1 : decide (((rd_T35 t101 3).f0) = 98 && (((rd_T35 t101 3).f1) == 4 && (((rd_T35 t101 3).f2) == 1 && (!((rd_T35 t101 3).f3))))) = true := by simpa using c17))
                     (try (have c17b2 : (((rd_T35 t101 3).f0) == 98 && (((rd_T35 t101 3).f1) == 4 && (((rd_T35 t101 3).f2) == 1 && (!((rd_T35 t101 3).f3))))) = true := by simpa using c17))
                     clear c17
                     by_cases c18 : t106 = 0
                     · rw [if_pos c18] at H
                       have c18b0 : (t106 == 0) = true := beq_iff_eq.mpr c18
                       have c18b1 : (t106 != 0) = false := bne_eq_false_iff_eq.mpr c18
                       clear c18
                       by_cases c19 : t105 = 4
                       · rw [if_pos c19] at H
                         have c19b0 : (t105 == 4) = true := beq_iff_eq.mpr c19
                         have c19b1 : (t105 != 4) = false := bne_eq_false_iff_eq.mpr c19
                         clear c19
                         by_cases c20 : t108 = 0
                         · rw [if_pos c20] at H
                           have c20b0 : (t108 == 0) = true := beq_iff_eq.mpr c20
                           have c20b1 : (t108 != 0) = false := bne_eq_false_iff_eq.mpr c20
                           clear c20
                           by_cases c21 : t107 = 3
                           · rw [if_pos c21] at H
                             have c21b0 : (t107 == 3) = true := beq_iff_eq.mpr c21
                             have c21b1 : (t107 != 3) = false := bne_eq_false_iff_eq.mpr c21
                             clear c21
                             by_cases c22 : t110 = 0
                             · rw [if_pos c22] at H
                               have c22b0 : (t110 == 0) = true := beq_iff_eq.mpr c22
                               have c22b1 : (t110 != 0) = false := bne_eq_false_iff_eq.mpr c22
                               clear c22
                               have H' := Aside0.mk H
                               clear H
                               obtain ⟨Ao23, co23, eo23⟩ := Kd.R_slice HO104.out
                               subst eo23
                               have p111 : 0 ≤ (1 : Int) := (by omega)
                               have q111 : 1 < (t101.length : Int) := of_decide_eq_true (by first | (with_reducible assumption) | assumption)
                               obtain ⟨ad111, e111, hx111_0, hx111_1, hx111_2, hx111_3⟩ := at_T35 (Kd.R_reads' HO104.out).2.2 1 p111 q111
                               cases e111
                               (try simp only [show (1 : Int).toNat = 1 from rfl, Nat.reduceMul, Nat.reduceEqDiff, Go.Addr.add, ↓reduceIte] at hx111_0)
                               (try simp only [show (1 : Int).toNat = 1 from rfl, Nat.reduceMul, Nat.reduceEqDiff, Go.Addr.add, ↓reduceIte] at hx111_1)
                               (try simp only [show (1 : Int).toNat = 1 from rfl, Nat.reduceMul, Nat.reduceEqDiff, Go.Addr.add, ↓reduceIte] at hx111_2)
                               (try simp only [show (1 : Int).toNat = 1 from rfl, Nat.reduceMul, Nat.reduceEqDiff, Go.Addr.add, ↓reduceIte] at hx111_3)
                               have qi111 : (1 < t101.length) = True := eq_true (by omega)
                               (try rw [show ((1 : Int)).toNat = 1 from rfl] at hx111_0)
                               (try rw [show 1 * 4 = 4 from rfl] at hx111_0)
                               (try rw [show ((1 : Int)).toNat = 1 from rfl] at hx111_1)
                               (try rw [show 1 * 4 = 4 from rfl] at hx111_1)
                               (try rw [show ((1 : Int)).toNat = 1 from rfl] at hx111_2)
                               (try rw [show 1 * 4 = 4 from rfl] at hx111_2)
                               (try rw [show ((1 : Int)).toNat = 1 from rfl] at hx111_3)
                               (try rw [show 1 * 4 = 4 from rfl] at hx111_3)
                               replace p111 := eq_true p111
                               replace q111 := eq_true q111
                               have p112 : 0 ≤ (2 : Int) := (by omega)
                               have q112 : 2 < (t101.length : Int) := of_decide_eq_true (by first | (with_reducible assumption) | assumption)
                               obtain ⟨ad112, e112, hx112_0, hx112_1, hx112_2, hx112_3⟩ := at_T35 (Kd.R_reads' HO104.out).2.2 2 p112 q112
                               obtain rfl : ad111 = ad112 := (by injection e112)
                               (try simp only [show (2 : Int).toNat = 2 from rfl, Nat.reduceMul, Nat.reduceEqDiff, Go.Addr.add, ↓reduceIte] at hx112_0)
                               (try simp only [show (2 : Int).toNat = 2 from rfl, Nat.reduceMul, Nat.reduceEqDiff, Go.Addr.add, ↓reduceIte] at hx112_1)
                               (try simp only [show (2 : Int).toNat = 2 from rfl, Nat.reduceMul, Nat.reduceEqDiff, Go.Addr.add, ↓reduceIte] at hx112_2)
                               (try simp only [show (2 : Int).toNat = 2 from rfl, Nat.reduceMul, Nat.reduceEqDiff, Go.Addr.add, ↓reduceIte] at hx112_3)
                               have qi112 : (2 < t101.length) = True := eq_true (by omega)
                               (try rw [show ((2 : Int)).toNat = 2 from rfl] at hx112_0)
                               (try rw [show 2 * 4 = 8 from rfl] at hx112_0)
                               (try rw [show ((2 : Int)).toNat = 2 from rfl] at hx112_1)
                               (try rw [show 2 * 4 = 8 from rfl] at hx112_1)
                               (try rw [show ((2 : Int)).toNat = 2 from rfl] at hx112_2)
                               (try rw [show 2 * 4 = 8 from rfl] at hx112_2)
                               (try rw [show ((2 : Int)).toNat = 2 from rfl] at hx112_3)
                               (try rw [show 2 * 4 = 8 from rfl] at hx112_3)
                               replace p112 := eq_true p112
                               replace q112 := eq_true q112
                               have p113 : 0 ≤ (3 : Int) := (by omega)
                               have q113 : 3 < (t101.length : Int) := of_decide_eq_true (by first | (with_reducible assumption) | assumption)
                               obtain ⟨ad113, e113, hx113_0, hx113_1, hx113_2, hx113_3⟩ := at_T35 (Kd.R_reads' HO104.out).2.2 3 p113 q113
                               obtain rfl : ad111 = ad113 := (by injection e113)
                               (try simp only [show (3 : Int).toNat = 3 from rfl, Nat.reduceMul, Nat.reduceEqDiff, Go.Addr.add, ↓reduceIte] at hx113_0)
                               (try simp only [show (3 : Int).toNat = 3 from rfl, Nat.reduceMul, Nat.reduceEqDiff, Go.Addr.add, ↓reduceIte] at hx113_1)
                               (try simp only [show (3 : Int).toNat = 3 from rfl, Nat.reduceMul, Nat.reduceEqDiff, Go.Addr.add, ↓reduceIte] at hx113_2)
                               (try simp only [show (3 : Int).toNat = 3 from rfl, Nat.reduceMul, Nat.reduceEqDiff, Go.Addr.add, ↓reduceIte] at hx113_3)
                               have qi113 : (3 < t101.length) = True := eq_true (by omega)
                               (try rw [show ((3 : Int)).toNat = 3 from rfl] at hx113_0)
                               (try rw [show 3 * 4 = 12 from rfl] at hx113_0)
                               (try rw [show ((3 : Int)).toNat = 3 from rfl] at hx113_1)
                               (try rw [show 3 * 4 = 12 from rfl] at hx113_1)
                               (try rw [show ((3 : Int)).toNat = 3 from rfl] at hx113_2)
                               (try rw [show 3 * 4 = 12 from rfl] at hx113_2)
                               (try rw [show ((3 : Int)).toNat = 3 from rfl] at hx113_3)
                               (try rw [show 3 * 4 = 12 from rfl] at hx113_3)
                               replace p113 := eq_true p113
                               replace q113 := eq_true q113
                               go_wp2
                               go_meet
                               case rel => exact ⟨_, ((t109 == (-1))), (by first | rfl | (simp; done) | (simp [*]; done)), H', ⟨by first | omega | exact Nat.le_refl _⟩, ⟨by repeat (first | (with_reducible first | exact HB.out | apply below_alloc | apply pw_below_drewN | apply below_drew1) | exact HB.out)⟩⟩
                             · rw [if_neg c22] at H
                               exact absurd H (by first | exact never_0 _ | exact never_1 _ _ | exact never_2 _ _ _ | exact fun e => by cases e)
                           · rw [if_neg c21] at H
                             exact absurd H (by first | exact never_0 _ | exact never_1 _ _ | exact never_2 _ _ _ | exact fun e => by cases e)
                         · rw [if_neg c20] at H
                           exact absurd H (by first | exact never_0 _ | exact never_1 _ _ | exact never_2 _ _ _ | exact fun e => by cases e)
                       · rw [if_neg c19] at H
                         exact absurd H (by first | exact never_0 _ | exact never_1 _ _ | exact never_2 _ _ _ | exact fun e => by cases e)
                     · rw [if_neg c18] at H
                       exact absurd H (by first | exact never_0 _ | exact never_1 _ _ | exact never_2 _ _ _ | exact fun e => by cases e)
                   · rw [if_neg c17] at H
                     exact absurd H (by first | exact never_0 _ | exact never_1 _ _ | exact never_2 _ _ _ | exact fun e => by cases e)
                 · rw [if_neg c16] at H
                   exact absurd H (by first | exact never_0 _ | exact never_1 _ _ | exact never_2 _ _ _ | exact fun e => by cases e)
               · rw [if_neg c15] at H
                 exact absurd H (by first | exact never_0 _ | exact never_1 _ _ | exact never_2 _ _ _ | exact fun e => by cases e)
             · rw [if_neg c14] at H
               exact absurd H (by first | exact never_0 _ | exact never_1 _ _ | exact never_2 _ _ _ | exact fun e => by cases e)
           · rw [if_neg c13] at H
             exact absurd H (by first | exact never_0 _ | exact never_1 _ _ | exact never_2 _ _ _ | exact fun e => by cases e)
         · rw [if_neg c12] at H
           exact absurd H (by first | exact never_0 _ | exact never_1 _ _ | exact never_2 _ _ _ | exact fun e => by cases e)
       · rw [if_neg c11] at H
         exact absurd H (by first | exact never_0 _ | exact never_1 _ _ | exact never_2 _ _ _ | exact fun e => by cases e)
     · rw [if_neg c10] at H
       exact absurd H (by first | exact never_0 _ | exact never_1 _ _ | exact never_2 _ _ _ | exact fun e => by cases e)
  as_aux_lemma =>
   case rest =>
     clear HC5
     try clear c1
     try clear p1
     try clear q1
     try clear hx1
     try clear qi1
     try clear c2
     try clear p2
     try clear c10
     try clear c10b0
     try clear c10b1
     try clear c11
     try clear c11b0
     try clear c11b1
     try clear p11
     try clear q11
     try clear hx11
     try clear qi11
     try clear c12
     try clear c13
     try clear c13b0
     try clear c13b1
     try clear c13b2
     try clear c14
     try clear c15
     try clear c15b0
     try clear c15b1
     try clear c15b2
     try clear c16
     try clear c17
     try clear c17b0
     try clear c17b1
     try clear c17b2
     try clear c18
     try clear c18b0
     try clear c18b1
     try clear c19
     try clear c19b0
     try clear c19b1
     try clear c20
     try clear c20b0
     try clear c20b1
     try clear c21
     try clear c21b0
     try clear c21b1
     try clear c22
     try clear c22b0
     try clear c22b1
     try clear hx111_0
     try clear hx111_1
     try clear hx111_2
     try clear hx111_3
     try clear hx112_0
     try clear hx112_1
     try clear hx112_2
     try clear hx112_3
     try clear hx113_0
     try clear hx113_1
     try clear hx113_2
     try clear hx113_3
     try clear p111
     try clear p112
     try clear p113
     try clear q111
     try clear q112
     try clear q113
     obtain ⟨kq, x9_4, rfl, HA, HJ4, HB⟩ := hcut
     cases kq with
     | zero => exact absurd HA.out (by simp [cognatelaw01_RunesNames.j0])
     | succ kj4 =>
       have H := HA.out
       clear HA
       simp only [cognatelaw01_RunesNames.j0] at H
       replace H := Option.bind_eq_some_iff.mp H
       obtain ⟨⟨t114, t115⟩, A330, H⟩ := H
       replace H : ((runes_Part.f (⟨#[97, 195, 169, 255, 98]⟩ : ByteArray) 3 2).bind fun bt116 => ((runes_Part.f (⟨#[97, 195, 169, 255, 98]⟩ : ByteArray) 0 5).bind fun bt118 => ((runes_Quote.f (⟨#[97, 195, 169, 255, 98]⟩ : ByteArray)).bind fun bt120 => ((runes_Quote.f (⟨#[97, 34, 98, 10]⟩ : ByteArray)).bind fun bt122 => (if t115 = 0 then (if t114.toList = ([195, 169, 255] : List UInt8) then (if bt116.2 = 10 then (if bt118.2 = 10 then (if bt120.2 = 0 then (if bt120.1.toList = ([34, 97, 92, 117, 101, 57, 59, 92, 120, 102, 102, 98, 34] : List UInt8) then (if bt122.2 = 0 then (if bt122.1.toList = ([34, 97, 92, 34, 98, 92, 117, 97, 59, 34] : List UInt8) then ((runes_Text.f (([55296, 98] : List Int))).bind fun t127 => (if t127.toList = ([239, 191, 189, 98] : List UInt8) then ((runes_Text.f (([(-1)] : List Int))).bind fun t131 => (cognatelaw01_RunesNames.j1 kj4 x9_4 (t131.toList == ([239, 191, 189] : List UInt8)))) else (cognatelaw01_RunesNames.j1 kj4 x9_4 false))) else (cognatelaw01_RunesNames.j1 kj4 x9_4 false)) else (cognatelaw01_RunesNames.j1 kj4 x9_4 false)) else (cognatelaw01_RunesNames.j1 kj4 x9_4 false)) else (cognatelaw01_RunesNames.j1 kj4 x9_4 false)) else (cognatelaw01_RunesNames.j1 kj4 x9_4 false)) else (cognatelaw01_RunesNames.j1 kj4 x9_4 false)) else (cognatelaw01_RunesNames.j1 kj4 x9_4 false)) else (cognatelaw01_RunesNames.j1 kj4 x9_4 false)))))) = some true := H
       have A33 := Aside0.mk A330
       clear A330
       replace H := Option.bind_eq_some_iff.mp H
       obtain ⟨⟨t116, t117⟩, A340, H⟩ := H
       replace H : ((runes_Part.f (⟨#[97, 195, 169, 255, 98]⟩ : ByteArray) 0 5).bind fun bt118 => ((runes_Quote.f (⟨#[97, 195, 169, 255, 98]⟩ : ByteArray)).bind fun bt120 => ((runes_Quote.f (⟨#[97, 34, 98, 10]⟩ : ByteArray)).bind fun bt122 => (if t115 = 0 then (if t114.toList = ([195, 169, 255] : List UInt8) then (if t117 = 10 then (if bt118.2 = 10 then (if bt120.2 = 0 then (if bt120.1.toList = ([34, 97, 92, 117, 101, 57, 59, 92, 120, 102, 102, 98, 34] : List UInt8) then (if bt122.2 = 0 then (if bt122.1.toList = ([34, 97, 92, 34, 98, 92, 117, 97, 59, 34] : List UInt8) then ((runes_Text.f (([55296, 98] : List Int))).bind fun t127 => (if t127.toList = ([239, 191, 189, 98] : List UInt8) then ((runes_Text.f (([(-1)] : List Int))).bind fun t131 => (cognatelaw01_RunesNames.j1 kj4 x9_4 (t131.toList == ([239, 191, 189] : List UInt8)))) else (cognatelaw01_RunesNames.j1 kj4 x9_4 false))) else (cognatelaw01_RunesNames.j1 kj4 x9_4 false)) else (cognatelaw01_RunesNames.j1 kj4 x9_4 false)) else (cognatelaw01_RunesNames.j1 kj4 x9_4 false)) else (cognatelaw01_RunesNames.j1 kj4 x9_4 false)) else (cognatelaw01_RunesNames.j1 kj4 x9_4 false)) else (cognatelaw01_RunesNames.j1 kj4 x9_4 false)) else (cognatelaw01_RunesNames.j1 kj4 x9_4 false)) else (cognatelaw01_RunesNames.j1 kj4 x9_4 false))))) = some true := H
       have A34 := Aside0.mk A340
       clear A340
       replace H := Option.bind_eq_some_iff.mp H
       obtain ⟨⟨t118, t119⟩, A350, H⟩ := H
       replace H : ((runes_Quote.f (⟨#[97, 195, 169, 255, 98]⟩ : ByteArray)).bind fun bt120 => ((runes_Quote.f (⟨#[97, 34, 98, 10]⟩ : ByteArray)).bind fun bt122 => (if t115 = 0 then (if t114.toList = ([195, 169, 255] : List UInt8) then (if t117 = 10 then (if t119 = 10 then (if bt120.2 = 0 then (if bt120.1.toList = ([34, 97, 92, 117, 101, 57, 59, 92, 120, 102, 102, 98, 34] : List UInt8) then (if bt122.2 = 0 then (if bt122.1.toList = ([34, 97, 92, 34, 98, 92, 117, 97, 59, 34] : List UInt8) then ((runes_Text.f (([55296, 98] : List Int))).bind fun t127 => (if t127.toList = ([239, 191, 189, 98] : List UInt8) then ((runes_Text.f (([(-1)] : List Int))).bind fun t131 => (cognatelaw01_RunesNames.j1 kj4 x9_4 (t131.toList == ([239, 191, 189] : List UInt8)))) else (cognatelaw01_RunesNames.j1 kj4 x9_4 false))) else (cognatelaw01_RunesNames.j1 kj4 x9_4 false)) else (cognatelaw01_RunesNames.j1 kj4 x9_4 false)) else (cognatelaw01_RunesNames.j1 kj4 x9_4 false)) else (cognatelaw01_RunesNames.j1 kj4 x9_4 false)) else (cognatelaw01_RunesNames.j1 kj4 x9_4 false)) else (cognatelaw01_RunesNames.j1 kj4 x9_4 false)) else (cognatelaw01_RunesNames.j1 kj4 x9_4 false)) else (cognatelaw01_RunesNames.j1 kj4 x9_4 false)))) = some true := H
       have A35 := Aside0.mk A350
       clear A350
       replace H := Option.bind_eq_some_iff.mp H
       obtain ⟨⟨t120, t121⟩, A360, H⟩ := H
       replace H : ((runes_Quote.f (⟨#[97, 34, 98, 10]⟩ : ByteArray)).bind fun bt122 => (if t115 = 0 then (if t114.toList = ([195, 169, 255] : List UInt8) then (if t117 = 10 then (if t119 = 10 then (if t121 = 0 then (if t120.toList = ([34, 97, 92, 117, 101, 57, 59, 92, 120, 102, 102, 98, 34] : List UInt8) then (if bt122.2 = 0 then (if bt122.1.toList = ([34, 97, 92, 34, 98, 92, 117, 97, 59, 34] : List UInt8) then ((runes_Text.f (([55296, 98] : List Int))).bind fun t127 => (if t127.toList = ([239, 191, 189, 98] : List UInt8) then ((runes_Text.f (([(-1)] : List Int))).bind fun t131 => (cognatelaw01_RunesNames.j1 kj4 x9_4 (t131.toList == ([239, 191, 189] : List UInt8)))) else (cognatelaw01_RunesNames.j1 kj4 x9_4 false))) else (cognatelaw01_RunesNames.j1 kj4 x9_4 false)) else (cognatelaw01_RunesNames.j1 kj4 x9_4 false)) else (cognatelaw01_RunesNames.j1 kj4 x9_4 false)) else (cognatelaw01_RunesNames.j1 kj4 x9_4 false)) else (cognatelaw01_RunesNames.j1 kj4 x9_4 false)) else (cognatelaw01_RunesNames.j1 kj4 x9_4 false)) else (cognatelaw01_RunesNames.j1 kj4 x9_4 false)) else (cognatelaw01_RunesNames.j1 kj4 x9_4 false))) = some true := H
       have A36 := Aside0.mk A360
       clear A360
       replace H := Option.bind_eq_some_iff.mp H
       obtain ⟨⟨t122, t123⟩, A370, H⟩ := H
       replace H : (if t115 = 0 then (if t114.toList = ([195, 169, 255] : List UInt8) then (if t117 = 10 then (if t119 = 10 then (if t121 = 0 then (if t120.toList = ([34, 97, 92, 117, 101, 57, 59, 92, 120, 102, 102, 98, 34] : List UInt8) then (if t123 = 0 then (if t122.toList = ([34, 97, 92, 34, 98, 92, 117, 97, 59, 34] : List UInt8) then ((runes_Text.f (([55296, 98] : List Int))).bind fun t127 => (if t127.toList = ([239, 191, 189, 98] : List UInt8) then ((runes_Text.f (([(-1)] : List Int))).bind fun t131 => (cognatelaw01_RunesNames.j1 kj4 x9_4 (t131.toList == ([239, 191, 189] : List UInt8)))) else (cognatelaw01_RunesNames.j1 kj4 x9_4 false))) else (cognatelaw01_RunesNames.j1 kj4 x9_4 false)) else (cognatelaw01_RunesNames.j1 kj4 x9_4 false)) else (cognatelaw01_RunesNames.j1 kj4 x9_4 false)) else (cognatelaw01_RunesNames.j1 kj4 x9_4 false)) else (cognatelaw01_RunesNames.j1 kj4 x9_4 false)) else (cognatelaw01_RunesNames.j1 kj4 x9_4 false)) else (cognatelaw01_RunesNames.j1 kj4 x9_4 false)) else (cognatelaw01_RunesNames.j1 kj4 x9_4 false)) = some true := H
       have A37 := Aside0.mk A370
       clear A370
       have HC38 := Aside0.mk H
       clear H
       go_upto_region 11 with (first | ((with_reducible refine gate_callee (f := 19) rfl ?_); refine goesL_ (some 91) rfl rfl Tryd.func19 (by kernel_rfl) rfl #[.string (⟨#[97, 195, 169, 255, 98]⟩ : ByteArray), .int .i64 1, .int .i64 3] rfl (by (try simp only [List.map_toArray, List.map_cons, List.map_nil]); first | done | rfl | (simp only [List.length_drop, List.length_take]; rfl)) ?_; (with_reducible refine (runes_Part.calls (⟨#[97, 195, 169, 255, 98]⟩ : ByteArray) 1 3 t114 t115 _ ?side1 A33.out).mono ?_); (case side1 => exact TabU.below HTU.out (by repeat (first | (with_reducible first | exact HB.out | apply below_alloc | apply pw_below_drewN | apply below_drew1) | exact HB.out))); rintro e w39 ⟨rfl, hb⟩; refine ⟨_, rfl, ?_⟩; have n0_ := Aside0.mk (below_step (by repeat (first | (with_reducible first | exact HB.out | apply below_alloc | apply pw_below_drewN | apply below_drew1) | exact HB.out)) hb); clear HB; have HB := n0_; clear n0_; (try clear hb); (try clear hb2); (try clear hk); (try clear hi)) | ((with_reducible refine gate_callee (f := 19) rfl ?_); refine goesL_ (some 95) rfl rfl Tryd.func19 (by kernel_rfl) rfl #[.string (⟨#[97, 195, 169, 255, 98]⟩ : ByteArray), .int .i64 3, .int .i64 2] rfl (by (try simp only [List.map_toArray, List.map_cons, List.map_nil]); first | done | rfl | (simp only [List.length_drop, List.length_take]; rfl)) ?_; (with_reducible refine (runes_Part.calls (⟨#[97, 195, 169, 255, 98]⟩ : ByteArray) 3 2 t116 t117 _ ?side1 A34.out).mono ?_); (case side1 => exact TabU.below HTU.out (by repeat (first | (with_reducible first | exact HB.out | apply below_alloc | apply pw_below_drewN | apply below_drew1) | exact HB.out))); rintro e w40 ⟨rfl, hb⟩; refine ⟨_, rfl, ?_⟩; have n0_ := Aside0.mk (below_step (by repeat (first | (with_reducible first | exact HB.out | apply below_alloc | apply pw_below_drewN | apply below_drew1) | exact HB.out)) hb); clear HB; have HB := n0_; clear n0_; (try clear hb); (try clear hb2); (try clear hk); (try clear hi)) | ((with_reducible refine gate_callee (f := 19) rfl ?_); refine goesL_ (some 99) rfl rfl Tryd.func19 (by kernel_rfl) rfl #[.string (⟨#[97, 195, 169, 255, 98]⟩ : ByteArray), .int .i64 0, .int .i64 5] rfl (by (try simp only [List.map_toArray, List.map_cons, List.map_nil]); first | done | rfl | (simp only [List.length_drop, List.length_take]; rfl)) ?_; (with_reducible refine (runes_Part.calls (⟨#[97, 195, 169, 255, 98]⟩ : ByteArray) 0 5 t118 t119 _ ?side1 A35.out).mono ?_); (case side1 => exact TabU.below HTU.out (by repeat (first | (with_reducible first | exact HB.out | apply below_alloc | apply pw_below_drewN | apply below_drew1) | exact HB.out))); rintro e w41 ⟨rfl, hb⟩; refine ⟨_, rfl, ?_⟩; have n0_ := Aside0.mk (below_step (by repeat (first | (with_reducible first | exact HB.out | apply below_alloc | apply pw_below_drewN | apply below_drew1) | exact HB.out)) hb); clear HB; have HB := n0_; clear n0_; (try clear hb); (try clear hb2); (try clear hk); (try clear hi)) | ((with_reducible refine gate_callee (f := 27) rfl ?_); refine goesL_ (some 103) rfl rfl Tryd.func27 (by kernel_rfl) rfl #[.string (⟨#[97, 195, 169, 255, 98]⟩ : ByteArray)] rfl (by (try simp only [List.map_toArray, List.map_cons, List.map_nil]); first | done | rfl | (simp only [List.length_drop, List.length_take]; rfl)) ?_; (with_reducible refine (runes_Quote.calls (⟨#[97, 195, 169, 255, 98]⟩ : ByteArray) t120 t121 _ ?side1 ?side2 A36.out).mono ?_); (case side1 => exact TabU.below HTU.out (by repeat (first | (with_reducible first | exact HB.out | apply below_alloc | apply pw_below_drewN | apply below_drew1) | exact HB.out))); (case side2 => exact TabN.below HTN.out (by repeat (first | (with_reducible first | exact HB.out | apply below_alloc | apply pw_below_drewN | apply below_drew1) | exact HB.out))); rintro e w42 ⟨rfl, hb⟩; refine ⟨_, rfl, ?_⟩; have n0_ := Aside0.mk (below_step (by repeat (first | (with_reducible first | exact HB.out | apply below_alloc | apply pw_below_drewN | apply below_drew1) | exact HB.out)) hb); clear HB; have HB := n0_; clear n0_; (try clear hb); (try clear hb2); (try clear hk); (try clear hi)) | ((with_reducible refine gate_callee (f := 27) rfl ?_); refine goesL_ (some 107) rfl rfl Tryd.func27 (by kernel_rfl) rfl #[.string (⟨#[97, 34, 98, 10]⟩ : ByteArray)] rfl (by (try simp only [List.map_toArray, List.map_cons, List.map_nil]); first | done | rfl | (simp only [List.length_drop, List.length_take]; rfl)) ?_; (with_reducible refine (runes_Quote.calls (⟨#[97, 34, 98, 10]⟩ : ByteArray) t122 t123 _ ?side1 ?side2 A37.out).mono ?_); (case side1 => exact TabU.below HTU.out (by repeat (first | (with_reducible first | exact HB.out | apply below_alloc | apply pw_below_drewN | apply below_drew1) | exact HB.out))); (case side2 => exact TabN.below HTN.out (by repeat (first | (with_reducible first | exact HB.out | apply below_alloc | apply pw_below_drewN | apply below_drew1) | exact HB.out))); rintro e w43 ⟨rfl, hb⟩; refine ⟨_, rfl, ?_⟩; have n0_ := Aside0.mk (below_step (by repeat (first | (with_reducible first | exact HB.out | apply below_alloc | apply pw_below_drewN | apply below_drew1) | exact HB.out)) hb); clear HB; have HB := n0_; clear n0_; (try clear hb); (try clear hb2); (try clear hk); (try clear hi)))
       (try simp only [Act.put, List.setIfInBounds_toArray, List.set_cons_zero, List.set_cons_succ])
       go_cut [20] (fun v20 wc => ∃ (kq : Nat) (x20_37 : Bool), v20 = .bool x20_37 ∧ Aside0 (cognatelaw01_RunesNames.j1 kq x9_4 x20_37 = some true) ∧ Aside0 (kq ≤ kj4) ∧ Aside0 (Below w.heap.size w wc))
       case first =>
        as_aux_lemma =>
          have H := HC38.out
          clear HC38
          by_cases c44 : t115 = 0
          · rw [if_pos c44] at H
            have c44b0 : (t115 == 0) = true := beq_iff_eq.mpr c44
            have c44b1 : (t115 != 0) = false := bne_eq_false_iff_eq.mpr c44
            clear c44
            (first | rw [c44b0] | (simp only [i64_w, i32_w]; rw [c44b0]) | skip)
            by_cases c45 : t114.toList = ([195, 169, 255] : List UInt8)
            · rw [if_pos c45] at H
              have c45b0 : (t114.toList == ([195, 169, 255] : List UInt8)) = true := beq_iff_eq.mpr c45
              have c45b1 : (t114.toList != ([195, 169, 255] : List UInt8)) = false := bne_eq_false_iff_eq.mpr c45
              clear c45
              by_cases c46 : t117 = 10
              · rw [if_pos c46] at H
                have c46b0 : (t117 == 10) = true := beq_iff_eq.mpr c46
                have c46b1 : (t117 != 10) = false := bne_eq_false_iff_eq.mpr c46
                clear c46
                by_cases c47 : t119 = 10
                · rw [if_pos c47] at H
                  have c47b0 : (t119 == 10) = true := beq_iff_eq.mpr c47
                  have c47b1 : (t119 != 10) = false := bne_eq_false_iff_eq.mpr c47
                  clear c47
                  by_cases c48 : t121 = 0
                  · rw [if_pos c48] at H
                    have c48b0 : (t121 == 0) = true := beq_iff_eq.mpr c48
                    have c48b1 : (t121 != 0) = false := bne_eq_false_iff_eq.mpr c48
                    clear c48
                    by_cases c49 : t120.toList = ([34, 97, 92, 117, 101, 57, 59, 92, 120, 102, 102, 98, 34] : List UInt8)
                    · rw [if_pos c49] at H
                      have c49b0 : (t120.toList == ([34, 97, 92, 117, 101, 57, 59, 92, 120, 102, 102, 98, 34] : List UInt8)) = true := beq_iff_eq.mpr c49
                      have c49b1 : (t120.toList != ([34, 97, 92, 117, 101, 57, 59, 92, 120, 102, 102, 98, 34] : List UInt8)) = false := bne_eq_false_iff_eq.mpr c49
                      clear c49
                      by_cases c50 : t123 = 0
                      · rw [if_pos c50] at H
                        have c50b0 : (t123 == 0) = true := beq_iff_eq.mpr c50
                        have c50b1 : (t123 != 0) = false := bne_eq_false_iff_eq.mpr c50
                        clear c50
                        by_cases c51 : t122.toList = ([34, 97, 92, 34, 98, 92, 117, 97, 59, 34] : List UInt8)
                        · rw [if_pos c51] at H
                          have c51b0 : (t122.toList == ([34, 97, 92, 34, 98, 92, 117, 97, 59, 34] : List UInt8)) = true := beq_iff_eq.mpr c51
                          have c51b1 : (t122.toList != ([34, 97, 92, 34, 98, 92, 117, 97, 59, 34] : List UInt8)) = false := bne_eq_false_iff_eq.mpr c51
                          clear c51
                          obtain ⟨y124, hy124⟩ : ∃ y_ : List Int, y_ = (([55296, 98] : List Int)) := ⟨_, rfl⟩
                          replace H : ((runes_Text.f y124).bind fun t127 => (if t127.toList = ([239, 191, 189, 98] : List UInt8) then ((runes_Text.f (([(-1)] : List Int))).bind fun t131 => (cognatelaw01_RunesNames.j1 kj4 x9_4 (t131.toList == ([239, 191, 189] : List UInt8)))) else (cognatelaw01_RunesNames.j1 kj4 x9_4 false))) = some true := by first | (rw [hy124]; with_reducible exact H) | (have H2_ := (Option.bind_some _ _).symm.trans H; rw [hy124]; with_reducible exact H2_) | (have H2_ := (Option.bind_some _ _).symm.trans H; with_reducible exact H2_) | with_reducible exact H | (rw [hy124]; exact H) | exact H
                          have Ny124 := Aside0.mk hy124
                          clear hy124
                          replace H := Option.bind_eq_some_iff.mp H
                          obtain ⟨t127, A520, H⟩ := H
                          replace H : (if t127.toList = ([239, 191, 189, 98] : List UInt8) then ((runes_Text.f (([(-1)] : List Int))).bind fun t131 => (cognatelaw01_RunesNames.j1 kj4 x9_4 (t131.toList == ([239, 191, 189] : List UInt8)))) else (cognatelaw01_RunesNames.j1 kj4 x9_4 false)) = some true := H
                          have A52 := Aside0.mk A520
                          clear A520
                          by_cases c53 : t127.toList = ([239, 191, 189, 98] : List UInt8)
                          · rw [if_pos c53] at H
                            have c53b0 : (t127.toList == ([239, 191, 189, 98] : List UInt8)) = true := beq_iff_eq.mpr c53
                            have c53b1 : (t127.toList != ([239, 191, 189, 98] : List UInt8)) = false := bne_eq_false_iff_eq.mpr c53
                            clear c53
                            obtain ⟨y128, hy128⟩ : ∃ y_ : List Int, y_ = (([(-1)] : List Int)) := ⟨_, rfl⟩
                            replace H : ((runes_Text.f y128).bind fun t131 => (cognatelaw01_RunesNames.j1 kj4 x9_4 (t131.toList == ([239, 191, 189] : List UInt8)))) = some true := by first | (rw [hy128]; with_reducible exact H) | (have H2_ := (Option.bind_some _ _).symm.trans H; rw [hy128]; with_reducible exact H2_) | (have H2_ := (Option.bind_some _ _).symm.trans H; with_reducible exact H2_) | with_reducible exact H | (rw [hy128]; exact H) | exact H
                            have Ny128 := Aside0.mk hy128
                            clear hy128
                            replace H := Option.bind_eq_some_iff.mp H
                            obtain ⟨t131, A540, H⟩ := H
                            replace H : (cognatelaw01_RunesNames.j1 kj4 x9_4 (t131.toList == ([239, 191, 189] : List UInt8))) = some true := H
                            have A54 := Aside0.mk A540
                            clear A540
                            have H' := Aside0.mk H
                            clear H
                            go_wp2_with (first | ((with_reducible refine gate_dst (N := 141) rfl ?_); (try (refine gate_guard (by rfl) ?_; dsimp only)); refine Kd.R_lit (Kd.int .i32) _ 21 ?hg (N := 141) ?hd (xs := ([55296, 98] : List Int)) (inner := [.int .i32 55296, .int .i32 98]) (ok := fun _ => True) (okp := fun _ => True) ?hr ?hp (fun _ hk => hk) trivial (Below.refl _ _) (Nat.le_refl _) (by simp) ?_; (case hd => rfl); (case hg => rfl); (case hr => first | (go_simp; done) | (go_simp; rfl)); (case hp => exact (Reps.one (show Kd.M (Kd.int .i32) _ _ _ 55296 [.int .i32 55296] from rfl) (Reps.one (show Kd.M (Kd.int .i32) _ _ _ 98 [.int .i32 98] from rfl) (Reps.none _ _)))); intro v125 w55 ho56 hb hg_ hnew_; clear hg_ hnew_; (first | rw [← Ny124.out] at ho56 | (simp only [Int.reduceToNat] at ho56; rw [← Ny124.out] at ho56)); have n0_ := Aside0.mk (Kd.R_lower ho56 (below_size (by repeat (first | (with_reducible first | exact HB.out | apply below_alloc | apply pw_below_drewN | apply below_drew1) | exact HB.out)))); have n1_ := Aside0.mk (below_step (by repeat (first | (with_reducible first | exact HB.out | apply below_alloc | apply pw_below_drewN | apply below_drew1) | exact HB.out)) hb); clear HB; have HO126 := n0_; have HB := n1_; clear n0_ n1_; clear hb ho56; obtain ⟨Ao57, co57, eo57⟩ := Kd.R_slice HO126.out; subst eo57) | (go_at_call 26; (with_reducible refine (runes_Text.calls _ _ y124 t127 _ ?side1 ?side2 A52.out).mono ?_); (case side1 => repeat (first | exact (Kd.R_reads' HO126.out).2.2 | (with_reducible refine Kd.C_alloc ?_ _) | (with_reducible refine Kd.C_drewN ?_ _) | (with_reducible refine Kd.C_drew ?_))); (case side2 => exact (Kd.R_reads' HO126.out).2.1); rintro e w' ⟨rfl, ⟨nd, rfl⟩⟩) | ((with_reducible refine gate_dst (N := 146) rfl ?_); (try (refine gate_guard (by rfl) ?_; dsimp only)); refine Kd.R_lit (Kd.int .i32) _ 21 ?hg (N := 146) ?hd (xs := ([(-1)] : List Int)) (inner := [.int .i32 (-1)]) (ok := fun _ => True) (okp := fun _ => True) ?hr ?hp (fun _ hk => hk) trivial (Below.refl _ _) (Nat.le_refl _) (by simp) ?_; (case hd => rfl); (case hg => rfl); (case hr => first | (go_simp; done) | (go_simp; rfl)); (case hp => exact (Reps.one (show Kd.M (Kd.int .i32) _ _ _ (-1) [.int .i32 (-1)] from rfl) (Reps.none _ _))); intro v129 w58 ho59 hb hg_ hnew_; clear hg_ hnew_; (first | rw [← Ny128.out] at ho59 | (simp only [Int.reduceToNat] at ho59; rw [← Ny128.out] at ho59)); have n0_ := Aside0.mk (Kd.R_elder' (by (with_reducible repeat (first | apply Kd.R_alloc | apply Kd.R_drewN | apply Kd.R_drew)); exact HO126.out) (Kd.R_base ho59) hb); have n1_ := Aside0.mk (Kd.R_lower (Kd.R_new' ho59 (Kd.R_lt (by (with_reducible repeat (first | apply Kd.R_alloc | apply Kd.R_drewN | apply Kd.R_drew)); exact HO126.out))) (below_size (by repeat (first | (with_reducible first | exact HB.out | apply below_alloc | apply pw_below_drewN | apply below_drew1) | exact HB.out)))); have n2_ := Aside0.mk (below_step (by repeat (first | (with_reducible first | exact HB.out | apply below_alloc | apply pw_below_drewN | apply below_drew1) | exact HB.out)) hb); clear HO126; clear HB; have HO126 := n0_; have HO130 := n1_; have HB := n2_; clear n0_ n1_ n2_; clear hb ho59; obtain ⟨Ao60, co60, eo60⟩ := Kd.R_slice HO130.out; subst eo60) | (go_at_call 26; (with_reducible refine (runes_Text.calls _ _ y128 t131 _ ?side1 ?side2 A54.out).mono ?_); (case side1 => repeat (first | exact (Kd.R_reads' HO130.out).2.2 | (with_reducible refine Kd.C_alloc ?_ _) | (with_reducible refine Kd.C_drewN ?_ _) | (with_reducible refine Kd.C_drew ?_))); (case side2 => exact (Kd.R_reads' HO130.out).2.1); rintro e w' ⟨rfl, ⟨nd, rfl⟩⟩))
                            go_meet
                            case rel => exact ⟨_, ((t131.toList == ([239, 191, 189] : List UInt8))), (by first | rfl | (simp; done) | (simp [*]; done)), H', ⟨by have := HJ4.out; first | omega | exact Nat.le_refl _⟩, ⟨by repeat (first | (with_reducible first | exact HB.out | apply below_alloc | apply pw_below_drewN | apply below_drew1) | exact HB.out)⟩⟩
                          · rw [if_neg c53] at H
                            exact absurd H (by first | exact never_0 _ | exact never_1 _ _ | exact never_2 _ _ _ | exact fun e => by cases e)
                        · rw [if_neg c51] at H
                          exact absurd H (by first | exact never_0 _ | exact never_1 _ _ | exact never_2 _ _ _ | exact fun e => by cases e)
                      · rw [if_neg c50] at H
                        exact absurd H (by first | exact never_0 _ | exact never_1 _ _ | exact never_2 _ _ _ | exact fun e => by cases e)
                    · rw [if_neg c49] at H
                      exact absurd H (by first | exact never_0 _ | exact never_1 _ _ | exact never_2 _ _ _ | exact fun e => by cases e)
                  · rw [if_neg c48] at H
                    exact absurd H (by first | exact never_0 _ | exact never_1 _ _ | exact never_2 _ _ _ | exact fun e => by cases e)
                · rw [if_neg c47] at H
                  exact absurd H (by first | exact never_0 _ | exact never_1 _ _ | exact never_2 _ _ _ | exact fun e => by cases e)
              · rw [if_neg c46] at H
                exact absurd H (by first | exact never_0 _ | exact never_1 _ _ | exact never_2 _ _ _ | exact fun e => by cases e)
            · rw [if_neg c45] at H
              exact absurd H (by first | exact never_0 _ | exact never_1 _ _ | exact never_2 _ _ _ | exact fun e => by cases e)
          · rw [if_neg c44] at H
            exact absurd H (by first | exact never_0 _ | exact never_1 _ _ | exact never_2 _ _ _ | exact fun e => by cases e)
       as_aux_lemma =>
        case rest =>
          clear HC38
          try clear c1
          try clear p1
          try clear q1
          try clear hx1
          try clear qi1
          try clear c2
          try clear p2
          try clear c4
          try clear c5
          try clear c10
          try clear c10b0
          try clear c10b1
          try clear c11
          try clear c11b0
          try clear c11b1
          try clear p11
          try clear q11
          try clear hx11
          try clear qi11
          try clear c12
          try clear c13
          try clear c13b0
          try clear c13b1
          try clear c13b2
          try clear c14
          try clear c15
          try clear c15b0
          try clear c15b1
          try clear c15b2
          try clear c16
          try clear c17
          try clear c17b0
          try clear c17b1
          try clear c17b2
          try clear c18
          try clear c18b0
          try clear c18b1
          try clear c19
          try clear c19b0
          try clear c19b1
          try clear c20
          try clear c20b0
          try clear c20b1
          try clear c21
          try clear c21b0
          try clear c21b1
          try clear c22
          try clear c22b0
          try clear c22b1
          try clear c27
          try clear c44
          try clear c44b0
          try clear c44b1
          try clear c45
          try clear c45b0
          try clear c45b1
          try clear c46
          try clear c46b0
          try clear c46b1
          try clear c47
          try clear c47b0
          try clear c47b1
          try clear c48
          try clear c48b0
          try clear c48b1
          try clear c49
          try clear c49b0
          try clear c49b1
          try clear c50
          try clear c50b0
          try clear c50b1
          try clear c51
          try clear c51b0
          try clear c51b1
          try clear c53
          try clear c53b0
          try clear c53b1
          try clear hx111_0
          try clear hx111_1
          try clear hx111_2
          try clear hx111_3
          try clear hx112_0
          try clear hx112_1
          try clear hx112_2
          try clear hx112_3
          try clear hx113_0
          try clear hx113_1
          try clear hx113_2
          try clear hx113_3
          try clear p1
          try clear p11
          try clear p111
          try clear p112
          try clear p113
          try clear p2
          try clear q1
          try clear q11
          try clear q111
          try clear q112
          try clear q113
          obtain ⟨kq, x20_37, rfl, HA, HJ37, HB⟩ := hcut
          cases kq with
          | zero => exact absurd HA.out (by simp [cognatelaw01_RunesNames.j1])
          | succ kj37 =>
            have H := HA.out
            clear HA
            simp only [cognatelaw01_RunesNames.j1] at H
            have HC64 := Aside0.mk H
            clear H
            go_upto_region 12 with (fail)
            go_cut [21] (fun v21 wc => ∃ (kq : Nat) (x21_63 : Bool), v21 = .bool x21_63 ∧ Aside0 (cognatelaw01_RunesNames.j2 kq x9_4 x20_37 x21_63 = some true) ∧ Aside0 (kq ≤ kj37) ∧ Aside0 (Below w.heap.size w wc))
            case first =>
             as_aux_lemma =>
               have H := HC64.out
               clear HC64
               replace H := Option.bind_eq_some_iff.mp H
               obtain ⟨t132, A650, H⟩ := H
               replace H : (if t132 = true then ((cognatelaw01_wrong.f (⟨#[34, 97]⟩ : ByteArray) 2).bind fun t133 => (if t133 = true then ((cognatelaw01_wrong.f (⟨#[97]⟩ : ByteArray) 0).bind fun t134 => (if t134 = true then ((cognatelaw01_wrong.f (⟨#[34, 92, 120, 99, 51, 92, 120, 97, 57, 34]⟩ : ByteArray) 0).bind fun t135 => (if t135 = true then ((cognatelaw01_wrong.f (⟨#[34, 92, 117, 48, 101, 57, 59, 34]⟩ : ByteArray) 1).bind fun t136 => (if t136 = true then ((runes_Less.f kj37 (⟨#[97]⟩ : ByteArray) (⟨#[98]⟩ : ByteArray)).bind fun t137 => (if t137 = true then ((runes_Less.f kj37 (⟨#[97]⟩ : ByteArray) (⟨#[97, 98]⟩ : ByteArray)).bind fun t138 => (if t138 = true then ((runes_Less.f kj37 (⟨#[244, 143, 191, 191]⟩ : ByteArray) (⟨#[128]⟩ : ByteArray)).bind fun t139 => (if t139 = true then ((runes_Less.f kj37 (⟨#[98]⟩ : ByteArray) (⟨#[97]⟩ : ByteArray)).bind fun t140 => (cognatelaw01_RunesNames.j2 kj37 x9_4 x20_37 (!t140))) else (cognatelaw01_RunesNames.j2 kj37 x9_4 x20_37 false))) else (cognatelaw01_RunesNames.j2 kj37 x9_4 x20_37 false))) else (cognatelaw01_RunesNames.j2 kj37 x9_4 x20_37 false))) else (cognatelaw01_RunesNames.j2 kj37 x9_4 x20_37 false))) else (cognatelaw01_RunesNames.j2 kj37 x9_4 x20_37 false))) else (cognatelaw01_RunesNames.j2 kj37 x9_4 x20_37 false))) else (cognatelaw01_RunesNames.j2 kj37 x9_4 x20_37 false))) else (cognatelaw01_RunesNames.j2 kj37 x9_4 x20_37 false)) = some true := H
               have A65 := Aside0.mk A650
               clear A650
               by_cases c66 : t132 = true
               · subst c66
                 have H1 : ((cognatelaw01_wrong.f (⟨#[34, 97]⟩ : ByteArray) 2).bind fun t133 => (if t133 = true then ((cognatelaw01_wrong.f (⟨#[97]⟩ : ByteArray) 0).bind fun t134 => (if t134 = true then ((cognatelaw01_wrong.f (⟨#[34, 92, 120, 99, 51, 92, 120, 97, 57, 34]⟩ : ByteArray) 0).bind fun t135 => (if t135 = true then ((cognatelaw01_wrong.f (⟨#[34, 92, 117, 48, 101, 57, 59, 34]⟩ : ByteArray) 1).bind fun t136 => (if t136 = true then ((runes_Less.f kj37 (⟨#[97]⟩ : ByteArray) (⟨#[98]⟩ : ByteArray)).bind fun t137 => (if t137 = true then ((runes_Less.f kj37 (⟨#[97]⟩ : ByteArray) (⟨#[97, 98]⟩ : ByteArray)).bind fun t138 => (if t138 = true then ((runes_Less.f kj37 (⟨#[244, 143, 191, 191]⟩ : ByteArray) (⟨#[128]⟩ : ByteArray)).bind fun t139 => (if t139 = true then ((runes_Less.f kj37 (⟨#[98]⟩ : ByteArray) (⟨#[97]⟩ : ByteArray)).bind fun t140 => (cognatelaw01_RunesNames.j2 kj37 x9_4 x20_37 (!t140))) else (cognatelaw01_RunesNames.j2 kj37 x9_4 x20_37 false))) else (cognatelaw01_RunesNames.j2 kj37 x9_4 x20_37 false))) else (cognatelaw01_RunesNames.j2 kj37 x9_4 x20_37 false))) else (cognatelaw01_RunesNames.j2 kj37 x9_4 x20_37 false))) else (cognatelaw01_RunesNames.j2 kj37 x9_4 x20_37 false))) else (cognatelaw01_RunesNames.j2 kj37 x9_4 x20_37 false))) else (cognatelaw01_RunesNames.j2 kj37 x9_4 x20_37 false))) = some true := by rw [if_pos rfl] at H; exact H
                 clear H
                 have H := H1
                 clear H1
                 replace H := Option.bind_eq_some_iff.mp H
                 obtain ⟨t133, A670, H⟩ := H
                 replace H : (if t133 = true then ((cognatelaw01_wrong.f (⟨#[97]⟩ : ByteArray) 0).bind fun t134 => (if t134 = true then ((cognatelaw01_wrong.f (⟨#[34, 92, 120, 99, 51, 92, 120, 97, 57, 34]⟩ : ByteArray) 0).bind fun t135 => (if t135 = true then ((cognatelaw01_wrong.f (⟨#[34, 92, 117, 48, 101, 57, 59, 34]⟩ : ByteArray) 1).bind fun t136 => (if t136 = true then ((runes_Less.f kj37 (⟨#[97]⟩ : ByteArray) (⟨#[98]⟩ : ByteArray)).bind fun t137 => (if t137 = true then ((runes_Less.f kj37 (⟨#[97]⟩ : ByteArray) (⟨#[97, 98]⟩ : ByteArray)).bind fun t138 => (if t138 = true then ((runes_Less.f kj37 (⟨#[244, 143, 191, 191]⟩ : ByteArray) (⟨#[128]⟩ : ByteArray)).bind fun t139 => (if t139 = true then ((runes_Less.f kj37 (⟨#[98]⟩ : ByteArray) (⟨#[97]⟩ : ByteArray)).bind fun t140 => (cognatelaw01_RunesNames.j2 kj37 x9_4 x20_37 (!t140))) else (cognatelaw01_RunesNames.j2 kj37 x9_4 x20_37 false))) else (cognatelaw01_RunesNames.j2 kj37 x9_4 x20_37 false))) else (cognatelaw01_RunesNames.j2 kj37 x9_4 x20_37 false))) else (cognatelaw01_RunesNames.j2 kj37 x9_4 x20_37 false))) else (cognatelaw01_RunesNames.j2 kj37 x9_4 x20_37 false))) else (cognatelaw01_RunesNames.j2 kj37 x9_4 x20_37 false))) else (cognatelaw01_RunesNames.j2 kj37 x9_4 x20_37 false)) = some true := H
                 have A67 := Aside0.mk A670
                 clear A670
                 by_cases c68 : t133 = true
                 · subst c68
                   have H1 : ((cognatelaw01_wrong.f (⟨#[97]⟩ : ByteArray) 0).bind fun t134 => (if t134 = true then ((cognatelaw01_wrong.f (⟨#[34, 92, 120, 99, 51, 92, 120, 97, 57, 34]⟩ : ByteArray) 0).bind fun t135 => (if t135 = true then ((cognatelaw01_wrong.f (⟨#[34, 92, 117, 48, 101, 57, 59, 34]⟩ : ByteArray) 1).bind fun t136 => (if t136 = true then ((runes_Less.f kj37 (⟨#[97]⟩ : ByteArray) (⟨#[98]⟩ : ByteArray)).bind fun t137 => (if t137 = true then ((runes_Less.f kj37 (⟨#[97]⟩ : ByteArray) (⟨#[97, 98]⟩ : ByteArray)).bind fun t138 => (if t138 = true then ((runes_Less.f kj37 (⟨#[244, 143, 191, 191]⟩ : ByteArray) (⟨#[128]⟩ : ByteArray)).bind fun t139 => (if t139 = true then ((runes_Less.f kj37 (⟨#[98]⟩ : ByteArray) (⟨#[97]⟩ : ByteArray)).bind fun t140 => (cognatelaw01_RunesNames.j2 kj37 x9_4 x20_37 (!t140))) else (cognatelaw01_RunesNames.j2 kj37 x9_4 x20_37 false))) else (cognatelaw01_RunesNames.j2 kj37 x9_4 x20_37 false))) else (cognatelaw01_RunesNames.j2 kj37 x9_4 x20_37 false))) else (cognatelaw01_RunesNames.j2 kj37 x9_4 x20_37 false))) else (cognatelaw01_RunesNames.j2 kj37 x9_4 x20_37 false))) else (cognatelaw01_RunesNames.j2 kj37 x9_4 x20_37 false))) = some true := by rw [if_pos rfl] at H; exact H
                   clear H
                   have H := H1
                   clear H1
                   replace H := Option.bind_eq_some_iff.mp H
                   obtain ⟨t134, A690, H⟩ := H
                   replace H : (if t134 = true then ((cognatelaw01_wrong.f (⟨#[34, 92, 120, 99, 51, 92, 120, 97, 57, 34]⟩ : ByteArray) 0).bind fun t135 => (if t135 = true then ((cognatelaw01_wrong.f (⟨#[34, 92, 117, 48, 101, 57, 59, 34]⟩ : ByteArray) 1).bind fun t136 => (if t136 = true then ((runes_Less.f kj37 (⟨#[97]⟩ : ByteArray) (⟨#[98]⟩ : ByteArray)).bind fun t137 => (if t137 = true then ((runes_Less.f kj37 (⟨#[97]⟩ : ByteArray) (⟨#[97, 98]⟩ : ByteArray)).bind fun t138 => (if t138 = true then ((runes_Less.f kj37 (⟨#[244, 143, 191, 191]⟩ : ByteArray) (⟨#[128]⟩ : ByteArray)).bind fun t139 => (if t139 = true then ((runes_Less.f kj37 (⟨#[98]⟩ : ByteArray) (⟨#[97]⟩ : ByteArray)).bind fun t140 => (cognatelaw01_RunesNames.j2 kj37 x9_4 x20_37 (!t140))) else (cognatelaw01_RunesNames.j2 kj37 x9_4 x20_37 false))) else (cognatelaw01_RunesNames.j2 kj37 x9_4 x20_37 false))) else (cognatelaw01_RunesNames.j2 kj37 x9_4 x20_37 false))) else (cognatelaw01_RunesNames.j2 kj37 x9_4 x20_37 false))) else (cognatelaw01_RunesNames.j2 kj37 x9_4 x20_37 false))) else (cognatelaw01_RunesNames.j2 kj37 x9_4 x20_37 false)) = some true := H
                   have A69 := Aside0.mk A690
                   clear A690
                   by_cases c70 : t134 = true
                   · subst c70
                     have H1 : ((cognatelaw01_wrong.f (⟨#[34, 92, 120, 99, 51, 92, 120, 97, 57, 34]⟩ : ByteArray) 0).bind fun t135 => (if t135 = true then ((cognatelaw01_wrong.f (⟨#[34, 92, 117, 48, 101, 57, 59, 34]⟩ : ByteArray) 1).bind fun t136 => (if t136 = true then ((runes_Less.f kj37 (⟨#[97]⟩ : ByteArray) (⟨#[98]⟩ : ByteArray)).bind fun t137 => (if t137 = true then ((runes_Less.f kj37 (⟨#[97]⟩ : ByteArray) (⟨#[97, 98]⟩ : ByteArray)).bind fun t138 => (if t138 = true then ((runes_Less.f kj37 (⟨#[244, 143, 191, 191]⟩ : ByteArray) (⟨#[128]⟩ : ByteArray)).bind fun t139 => (if t139 = true then ((runes_Less.f kj37 (⟨#[98]⟩ : ByteArray) (⟨#[97]⟩ : ByteArray)).bind fun t140 => (cognatelaw01_RunesNames.j2 kj37 x9_4 x20_37 (!t140))) else (cognatelaw01_RunesNames.j2 kj37 x9_4 x20_37 false))) else (cognatelaw01_RunesNames.j2 kj37 x9_4 x20_37 false))) else (cognatelaw01_RunesNames.j2 kj37 x9_4 x20_37 false))) else (cognatelaw01_RunesNames.j2 kj37 x9_4 x20_37 false))) else (cognatelaw01_RunesNames.j2 kj37 x9_4 x20_37 false))) = some true := by rw [if_pos rfl] at H; exact H
                     clear H
                     have H := H1
                     clear H1
                     replace H := Option.bind_eq_some_iff.mp H
                     obtain ⟨t135, A710, H⟩ := H
                     replace H : (if t135 = true then ((cognatelaw01_wrong.f (⟨#[34, 92, 117, 48, 101, 57, 59, 34]⟩ : ByteArray) 1).bind fun t136 => (if t136 = true then ((runes_Less.f kj37 (⟨#[97]⟩ : ByteArray) (⟨#[98]⟩ : ByteArray)).bind fun t137 => (if t137 = true then ((runes_Less.f kj37 (⟨#[97]⟩ : ByteArray) (⟨#[97, 98]⟩ : ByteArray)).bind fun t138 => (if t138 = true then ((runes_Less.f kj37 (⟨#[244, 143, 191, 191]⟩ : ByteArray) (⟨#[128]⟩ : ByteArray)).bind fun t139 => (if t139 = true then ((runes_Less.f kj37 (⟨#[98]⟩ : ByteArray) (⟨#[97]⟩ : ByteArray)).bind fun t140 => (cognatelaw01_RunesNames.j2 kj37 x9_4 x20_37 (!t140))) else (cognatelaw01_RunesNames.j2 kj37 x9_4 x20_37 false))) else (cognatelaw01_RunesNames.j2 kj37 x9_4 x20_37 false))) else (cognatelaw01_RunesNames.j2 kj37 x9_4 x20_37 false))) else (cognatelaw01_RunesNames.j2 kj37 x9_4 x20_37 false))) else (cognatelaw01_RunesNames.j2 kj37 x9_4 x20_37 false)) = some true := H
                     have A71 := Aside0.mk A710
                     clear A710
                     by_cases c72 : t135 = true
                     · subst c72
                       have H1 : ((cognatelaw01_wrong.f (⟨#[34, 92, 117, 48, 101, 57, 59, 34]⟩ : ByteArray) 1).bind fun t136 => (if t136 = true then ((runes_Less.f kj37 (⟨#[97]⟩ : ByteArray) (⟨#[98]⟩ : ByteArray)).bind fun t137 => (if t137 = true then ((runes_Less.f kj37 (⟨#[97]⟩ : ByteArray) (⟨#[97, 98]⟩ : ByteArray)).bind fun t138 => (if t138 = true then ((runes_Less.f kj37 (⟨#[244, 143, 191, 191]⟩ : ByteArray) (⟨#[128]⟩ : ByteArray)).bind fun t139 => (if t139 = true then ((runes_Less.f kj37 (⟨#[98]⟩ : ByteArray) (⟨#[97]⟩ : ByteArray)).bind fun t140 => (cognatelaw01_RunesNames.j2 kj37 x9_4 x20_37 (!t140))) else (cognatelaw01_RunesNames.j2 kj37 x9_4 x20_37 false))) else (cognatelaw01_RunesNames.j2 kj37 x9_4 x20_37 false))) else (cognatelaw01_RunesNames.j2 kj37 x9_4 x20_37 false))) else (cognatelaw01_RunesNames.j2 kj37 x9_4 x20_37 false))) = some true := by rw [if_pos rfl] at H; exact H
                       clear H
                       have H := H1
                       clear H1
                       replace H := Option.bind_eq_some_iff.mp H
                       obtain ⟨t136, A730, H⟩ := H
                       replace H : (if t136 = true then ((runes_Less.f kj37 (⟨#[97]⟩ : ByteArray) (⟨#[98]⟩ : ByteArray)).bind fun t137 => (if t137 = true then ((runes_Less.f kj37 (⟨#[97]⟩ : ByteArray) (⟨#[97, 98]⟩ : ByteArray)).bind fun t138 => (if t138 = true then ((runes_Less.f kj37 (⟨#[244, 143, 191, 191]⟩ : ByteArray) (⟨#[128]⟩ : ByteArray)).bind fun t139 => (if t139 = true then ((runes_Less.f kj37 (⟨#[98]⟩ : ByteArray) (⟨#[97]⟩ : ByteArray)).bind fun t140 => (cognatelaw01_RunesNames.j2 kj37 x9_4 x20_37 (!t140))) else (cognatelaw01_RunesNames.j2 kj37 x9_4 x20_37 false))) else (cognatelaw01_RunesNames.j2 kj37 x9_4 x20_37 false))) else (cognatelaw01_RunesNames.j2 kj37 x9_4 x20_37 false))) else (cognatelaw01_RunesNames.j2 kj37 x9_4 x20_37 false)) = some true := H
                       have A73 := Aside0.mk A730
                       clear A730
                       by_cases c74 : t136 = true
                       · subst c74
                         have H1 : ((runes_Less.f kj37 (⟨#[97]⟩ : ByteArray) (⟨#[98]⟩ : ByteArray)).bind fun t137 => (if t137 = true then ((runes_Less.f kj37 (⟨#[97]⟩ : ByteArray) (⟨#[97, 98]⟩ : ByteArray)).bind fun t138 => (if t138 = true then ((runes_Less.f kj37 (⟨#[244, 143, 191, 191]⟩ : ByteArray) (⟨#[128]⟩ : ByteArray)).bind fun t139 => (if t139 = true then ((runes_Less.f kj37 (⟨#[98]⟩ : ByteArray) (⟨#[97]⟩ : ByteArray)).bind fun t140 => (cognatelaw01_RunesNames.j2 kj37 x9_4 x20_37 (!t140))) else (cognatelaw01_RunesNames.j2 kj37 x9_4 x20_37 false))) else (cognatelaw01_RunesNames.j2 kj37 x9_4 x20_37 false))) else (cognatelaw01_RunesNames.j2 kj37 x9_4 x20_37 false))) = some true := by rw [if_pos rfl] at H; exact H
                         clear H
                         have H := H1
                         clear H1
                         replace H := Option.bind_eq_some_iff.mp H
                         obtain ⟨t137, A750, H⟩ := H
                         replace H : (if t137 = true then ((runes_Less.f kj37 (⟨#[97]⟩ : ByteArray) (⟨#[97, 98]⟩ : ByteArray)).bind fun t138 => (if t138 = true then ((runes_Less.f kj37 (⟨#[244, 143, 191, 191]⟩ : ByteArray) (⟨#[128]⟩ : ByteArray)).bind fun t139 => (if t139 = true then ((runes_Less.f kj37 (⟨#[98]⟩ : ByteArray) (⟨#[97]⟩ : ByteArray)).bind fun t140 => (cognatelaw01_RunesNames.j2 kj37 x9_4 x20_37 (!t140))) else (cognatelaw01_RunesNames.j2 kj37 x9_4 x20_37 false))) else (cognatelaw01_RunesNames.j2 kj37 x9_4 x20_37 false))) else (cognatelaw01_RunesNames.j2 kj37 x9_4 x20_37 false)) = some true := H
                         have A75 := Aside0.mk A750
                         clear A750
                         by_cases c76 : t137 = true
                         · subst c76
                           have H1 : ((runes_Less.f kj37 (⟨#[97]⟩ : ByteArray) (⟨#[97, 98]⟩ : ByteArray)).bind fun t138 => (if t138 = true then ((runes_Less.f kj37 (⟨#[244, 143, 191, 191]⟩ : ByteArray) (⟨#[128]⟩ : ByteArray)).bind fun t139 => (if t139 = true then ((runes_Less.f kj37 (⟨#[98]⟩ : ByteArray) (⟨#[97]⟩ : ByteArray)).bind fun t140 => (cognatelaw01_RunesNames.j2 kj37 x9_4 x20_37 (!t140))) else (cognatelaw01_RunesNames.j2 kj37 x9_4 x20_37 false))) else (cognatelaw01_RunesNames.j2 kj37 x9_4 x20_37 false))) = some true := by rw [if_pos rfl] at H; exact H
                           clear H
                           have H := H1
                           clear H1
                           replace H := Option.bind_eq_some_iff.mp H
                           obtain ⟨t138, A770, H⟩ := H
                           replace H : (if t138 = true then ((runes_Less.f kj37 (⟨#[244, 143, 191, 191]⟩ : ByteArray) (⟨#[128]⟩ : ByteArray)).bind fun t139 => (if t139 = true then ((runes_Less.f kj37 (⟨#[98]⟩ : ByteArray) (⟨#[97]⟩ : ByteArray)).bind fun t140 => (cognatelaw01_RunesNames.j2 kj37 x9_4 x20_37 (!t140))) else (cognatelaw01_RunesNames.j2 kj37 x9_4 x20_37 false))) else (cognatelaw01_RunesNames.j2 kj37 x9_4 x20_37 false)) = some true := H
                           have A77 := Aside0.mk A770
                           clear A770
                           by_cases c78 : t138 = true
                           · subst c78
                             have H1 : ((runes_Less.f kj37 (⟨#[244, 143, 191, 191]⟩ : ByteArray) (⟨#[128]⟩ : ByteArray)).bind fun t139 => (if t139 = true then ((runes_Less.f kj37 (⟨#[98]⟩ : ByteArray) (⟨#[97]⟩ : ByteArray)).bind fun t140 => (cognatelaw01_RunesNames.j2 kj37 x9_4 x20_37 (!t140))) else (cognatelaw01_RunesNames.j2 kj37 x9_4 x20_37 false))) = some true := by rw [if_pos rfl] at H; exact H
                             clear H
                             have H := H1
                             clear H1
                             replace H := Option.bind_eq_some_iff.mp H
                             obtain ⟨t139, A790, H⟩ := H
                             replace H : (if t139 = true then ((runes_Less.f kj37 (⟨#[98]⟩ : ByteArray) (⟨#[97]⟩ : ByteArray)).bind fun t140 => (cognatelaw01_RunesNames.j2 kj37 x9_4 x20_37 (!t140))) else (cognatelaw01_RunesNames.j2 kj37 x9_4 x20_37 false)) = some true := H
                             have A79 := Aside0.mk A790
                             clear A790
                             by_cases c80 : t139 = true
                             · subst c80
                               have H1 : ((runes_Less.f kj37 (⟨#[98]⟩ : ByteArray) (⟨#[97]⟩ : ByteArray)).bind fun t140 => (cognatelaw01_RunesNames.j2 kj37 x9_4 x20_37 (!t140))) = some true := by rw [if_pos rfl] at H; exact H
                               clear H
                               have H := H1
                               clear H1
                               replace H := Option.bind_eq_some_iff.mp H
                               obtain ⟨t140, A810, H⟩ := H
                               replace H : (cognatelaw01_RunesNames.j2 kj37 x9_4 x20_37 (!t140)) = some true := H
                               have A81 := Aside0.mk A810
                               clear A810
                               have H' := Aside0.mk H
                               clear H
                               go_wp2_with (first | ((with_reducible refine gate_callee (f := 32) rfl ?_); refine goesL_ (some 150) rfl rfl Tryd.func32 (by kernel_rfl) rfl #[.string (⟨#[34, 97, 92, 120, 52, 49, 34]⟩ : ByteArray), .int .i64 2] rfl (by (try simp only [List.map_toArray, List.map_cons, List.map_nil]); first | done | rfl | (simp only [List.length_drop, List.length_take]; rfl)) ?_; (with_reducible refine (cognatelaw01_wrong.calls (⟨#[34, 97, 92, 120, 52, 49, 34]⟩ : ByteArray) 2 true _ ?side1 ?side2 ?side3 A65.out).mono ?_); (case side1 => exact TabU.below HTU.out (by repeat (first | (with_reducible first | exact HB.out | apply below_alloc | apply pw_below_drewN | apply below_drew1) | exact HB.out))); (case side2 => exact TabN.below HTN.out (by repeat (first | (with_reducible first | exact HB.out | apply below_alloc | apply pw_below_drewN | apply below_drew1) | exact HB.out))); (case side3 => exact TabE.below HTE.out (by repeat (first | (with_reducible first | exact HB.out | apply below_alloc | apply pw_below_drewN | apply below_drew1) | exact HB.out))); rintro e w82 ⟨rfl, hb⟩; refine ⟨_, rfl, ?_⟩; have n0_ := Aside0.mk (below_step (by repeat (first | (with_reducible first | exact HB.out | apply below_alloc | apply pw_below_drewN | apply below_drew1) | exact HB.out)) hb); clear HB; have HB := n0_; clear n0_; (try clear hb); (try clear hb2); (try clear hk); (try clear hi)) | (go_at_call 32; (with_reducible refine (cognatelaw01_wrong.calls (⟨#[34, 97]⟩ : ByteArray) 2 true _ ?side1 ?side2 ?side3 A67.out).mono ?_); (case side1 => exact TabU.below HTU.out (by repeat (first | (with_reducible first | exact HB.out | apply below_alloc | apply pw_below_drewN | apply below_drew1) | exact HB.out))); (case side2 => exact TabN.below HTN.out (by repeat (first | (with_reducible first | exact HB.out | apply below_alloc | apply pw_below_drewN | apply below_drew1) | exact HB.out))); (case side3 => exact TabE.below HTE.out (by repeat (first | (with_reducible first | exact HB.out | apply below_alloc | apply pw_below_drewN | apply below_drew1) | exact HB.out))); rintro e w83 ⟨rfl, hb⟩; have n0_ := Aside0.mk (below_step (by repeat (first | (with_reducible first | exact HB.out | apply below_alloc | apply pw_below_drewN | apply below_drew1) | exact HB.out)) hb); clear HB; have HB := n0_; clear n0_; (try clear hb); (try clear hb2); (try clear hk); (try clear hi)) | (go_at_call 32; (with_reducible refine (cognatelaw01_wrong.calls (⟨#[97]⟩ : ByteArray) 0 true _ ?side1 ?side2 ?side3 A69.out).mono ?_); (case side1 => exact TabU.below HTU.out (by repeat (first | (with_reducible first | exact HB.out | apply below_alloc | apply pw_below_drewN | apply below_drew1) | exact HB.out))); (case side2 => exact TabN.below HTN.out (by repeat (first | (with_reducible first | exact HB.out | apply below_alloc | apply pw_below_drewN | apply below_drew1) | exact HB.out))); (case side3 => exact TabE.below HTE.out (by repeat (first | (with_reducible first | exact HB.out | apply below_alloc | apply pw_below_drewN | apply below_drew1) | exact HB.out))); rintro e w84 ⟨rfl, hb⟩; have n0_ := Aside0.mk (below_step (by repeat (first | (with_reducible first | exact HB.out | apply below_alloc | apply pw_below_drewN | apply below_drew1) | exact HB.out)) hb); clear HB; have HB := n0_; clear n0_; (try clear hb); (try clear hb2); (try clear hk); (try clear hi)) | (go_at_call 32; (with_reducible refine (cognatelaw01_wrong.calls (⟨#[34, 92, 120, 99, 51, 92, 120, 97, 57, 34]⟩ : ByteArray) 0 true _ ?side1 ?side2 ?side3 A71.out).mono ?_); (case side1 => exact TabU.below HTU.out (by repeat (first | (with_reducible first | exact HB.out | apply below_alloc | apply pw_below_drewN | apply below_drew1) | exact HB.out))); (case side2 => exact TabN.below HTN.out (by repeat (first | (with_reducible first | exact HB.out | apply below_alloc | apply pw_below_drewN | apply below_drew1) | exact HB.out))); (case side3 => exact TabE.below HTE.out (by repeat (first | (with_reducible first | exact HB.out | apply below_alloc | apply pw_below_drewN | apply below_drew1) | exact HB.out))); rintro e w85 ⟨rfl, hb⟩; have n0_ := Aside0.mk (below_step (by repeat (first | (with_reducible first | exact HB.out | apply below_alloc | apply pw_below_drewN | apply below_drew1) | exact HB.out)) hb); clear HB; have HB := n0_; clear n0_; (try clear hb); (try clear hb2); (try clear hk); (try clear hi)) | (go_at_call 32; (with_reducible refine (cognatelaw01_wrong.calls (⟨#[34, 92, 117, 48, 101, 57, 59, 34]⟩ : ByteArray) 1 true _ ?side1 ?side2 ?side3 A73.out).mono ?_); (case side1 => exact TabU.below HTU.out (by repeat (first | (with_reducible first | exact HB.out | apply below_alloc | apply pw_below_drewN | apply below_drew1) | exact HB.out))); (case side2 => exact TabN.below HTN.out (by repeat (first | (with_reducible first | exact HB.out | apply below_alloc | apply pw_below_drewN | apply below_drew1) | exact HB.out))); (case side3 => exact TabE.below HTE.out (by repeat (first | (with_reducible first | exact HB.out | apply below_alloc | apply pw_below_drewN | apply below_drew1) | exact HB.out))); rintro e w86 ⟨rfl, hb⟩; have n0_ := Aside0.mk (below_step (by repeat (first | (with_reducible first | exact HB.out | apply below_alloc | apply pw_below_drewN | apply below_drew1) | exact HB.out)) hb); clear HB; have HB := n0_; clear n0_; (try clear hb); (try clear hb2); (try clear hk); (try clear hi)) | (go_at_call 10; (with_reducible refine (runes_Less.calls kj37 (⟨#[97]⟩ : ByteArray) (⟨#[98]⟩ : ByteArray) true _ ?side1 A75.out).mono ?_); (case side1 => exact TabU.below HTU.out (by repeat (first | (with_reducible first | exact HB.out | apply below_alloc | apply pw_below_drewN | apply below_drew1) | exact HB.out))); rintro e w87 ⟨rfl, hb⟩; have n0_ := Aside0.mk (below_step (by repeat (first | (with_reducible first | exact HB.out | apply below_alloc | apply pw_below_drewN | apply below_drew1) | exact HB.out)) hb); clear HB; have HB := n0_; clear n0_; (try clear hb); (try clear hb2); (try clear hk); (try clear hi)) | (go_at_call 10; (with_reducible refine (runes_Less.calls kj37 (⟨#[97]⟩ : ByteArray) (⟨#[97, 98]⟩ : ByteArray) true _ ?side1 A77.out).mono ?_); (case side1 => exact TabU.below HTU.out (by repeat (first | (with_reducible first | exact HB.out | apply below_alloc | apply pw_below_drewN | apply below_drew1) | exact HB.out))); rintro e w88 ⟨rfl, hb⟩; have n0_ := Aside0.mk (below_step (by repeat (first | (with_reducible first | exact HB.out | apply below_alloc | apply pw_below_drewN | apply below_drew1) | exact HB.out)) hb); clear HB; have HB := n0_; clear n0_; (try clear hb); (try clear hb2); (try clear hk); (try clear hi)) | (go_at_call 10; (with_reducible refine (runes_Less.calls kj37 (⟨#[244, 143, 191, 191]⟩ : ByteArray) (⟨#[128]⟩ : ByteArray) true _ ?side1 A79.out).mono ?_); (case side1 => exact TabU.below HTU.out (by repeat (first | (with_reducible first | exact HB.out | apply below_alloc | apply pw_below_drewN | apply below_drew1) | exact HB.out))); rintro e w89 ⟨rfl, hb⟩; have n0_ := Aside0.mk (below_step (by repeat (first | (with_reducible first | exact HB.out | apply below_alloc | apply pw_below_drewN | apply below_drew1) | exact HB.out)) hb); clear HB; have HB := n0_; clear n0_; (try clear hb); (try clear hb2); (try clear hk); (try clear hi)) | (go_at_call 10; (with_reducible refine (runes_Less.calls kj37 (⟨#[98]⟩ : ByteArray) (⟨#[97]⟩ : ByteArray) t140 _ ?side1 A81.out).mono ?_); (case side1 => exact TabU.below HTU.out (by repeat (first | (with_reducible first | exact HB.out | apply below_alloc | apply pw_below_drewN | apply below_drew1) | exact HB.out))); rintro e w90 ⟨rfl, hb⟩; have n0_ := Aside0.mk (below_step (by repeat (first | (with_reducible first | exact HB.out | apply below_alloc | apply pw_below_drewN | apply below_drew1) | exact HB.out)) hb); clear HB; have HB := n0_; clear n0_; (try clear hb); (try clear hb2); (try clear hk); (try clear hi)))
                               go_meet
                               case rel => exact ⟨_, (!t140), (by first | rfl | (simp; done) | (simp [*]; done)), H', ⟨by have := HJ4.out; have := HJ37.out; first | omega | exact Nat.le_refl _⟩, ⟨by repeat (first | (with_reducible first | exact HB.out | apply below_alloc | apply pw_below_drewN | apply below_drew1) | exact HB.out)⟩⟩
                             · replace c80 := Bool.eq_false_iff.mpr c80
                               subst c80
                               have H1 : (cognatelaw01_RunesNames.j2 kj37 x9_4 x20_37 false) = some true := by rw [if_neg (show ¬ (false = true) by decide)] at H; exact H
                               clear H
                               have H := H1
                               clear H1
                               have H' := Aside0.mk H
                               clear H
                               go_wp2_with (first | ((with_reducible refine gate_callee (f := 32) rfl ?_); refine goesL_ (some 150) rfl rfl Tryd.func32 (by kernel_rfl) rfl #[.string (⟨#[34, 97, 92, 120, 52, 49, 34]⟩ : ByteArray), .int .i64 2] rfl (by (try simp only [List.map_toArray, List.map_cons, List.map_nil]); first | done | rfl | (simp only [List.length_drop, List.length_take]; rfl)) ?_; (with_reducible refine (cognatelaw01_wrong.calls (⟨#[34, 97, 92, 120, 52, 49, 34]⟩ : ByteArray) 2 true _ ?side1 ?side2 ?side3 A65.out).mono ?_); (case side1 => exact TabU.below HTU.out (by repeat (first | (with_reducible first | exact HB.out | apply below_alloc | apply pw_below_drewN | apply below_drew1) | exact HB.out))); (case side2 => exact TabN.below HTN.out (by repeat (first | (with_reducible first | exact HB.out | apply below_alloc | apply pw_below_drewN | apply below_drew1) | exact HB.out))); (case side3 => exact TabE.below HTE.out (by repeat (first | (with_reducible first | exact HB.out | apply below_alloc | apply pw_below_drewN | apply below_drew1) | exact HB.out))); rintro e w91 ⟨rfl, hb⟩; refine ⟨_, rfl, ?_⟩; have n0_ := Aside0.mk (below_step (by repeat (first | (with_reducible first | exact HB.out | apply below_alloc | apply pw_below_drewN | apply below_drew1) | exact HB.out)) hb); clear HB; have HB := n0_; clear n0_; (try clear hb); (try clear hb2); (try clear hk); (try clear hi)) | (go_at_call 32; (with_reducible refine (cognatelaw01_wrong.calls (⟨#[34, 97]⟩ : ByteArray) 2 true _ ?side1 ?side2 ?side3 A67.out).mono ?_); (case side1 => exact TabU.below HTU.out (by repeat (first | (with_reducible first | exact HB.out | apply below_alloc | apply pw_below_drewN | apply below_drew1) | exact HB.out))); (case side2 => exact TabN.below HTN.out (by repeat (first | (with_reducible first | exact HB.out | apply below_alloc | apply pw_below_drewN | apply below_drew1) | exact HB.out))); (case side3 => exact TabE.below HTE.out (by repeat (first | (with_reducible first | exact HB.out | apply below_alloc | apply pw_below_drewN | apply below_drew1) | exact HB.out))); rintro e w92 ⟨rfl, hb⟩; have n0_ := Aside0.mk (below_step (by repeat (first | (with_reducible first | exact HB.out | apply below_alloc | apply pw_below_drewN | apply below_drew1) | exact HB.out)) hb); clear HB; have HB := n0_; clear n0_; (try clear hb); (try clear hb2); (try clear hk); (try clear hi)) | (go_at_call 32; (with_reducible refine (cognatelaw01_wrong.calls (⟨#[97]⟩ : ByteArray) 0 true _ ?side1 ?side2 ?side3 A69.out).mono ?_); (case side1 => exact TabU.below HTU.out (by repeat (first | (with_reducible first | exact HB.out | apply below_alloc | apply pw_below_drewN | apply below_drew1) | exact HB.out))); (case side2 => exact TabN.below HTN.out (by repeat (first | (with_reducible first | exact HB.out | apply below_alloc | apply pw_below_drewN | apply below_drew1) | exact HB.out))); (case side3 => exact TabE.below HTE.out (by repeat (first | (with_reducible first | exact HB.out | apply below_alloc | apply pw_below_drewN | apply below_drew1) | exact HB.out))); rintro e w93 ⟨rfl, hb⟩; have n0_ := Aside0.mk (below_step (by repeat (first | (with_reducible first | exact HB.out | apply below_alloc | apply pw_below_drewN | apply below_drew1) | exact HB.out)) hb); clear HB; have HB := n0_; clear n0_; (try clear hb); (try clear hb2); (try clear hk); (try clear hi)) | (go_at_call 32; (with_reducible refine (cognatelaw01_wrong.calls (⟨#[34, 92, 120, 99, 51, 92, 120, 97, 57, 34]⟩ : ByteArray) 0 true _ ?side1 ?side2 ?side3 A71.out).mono ?_); (case side1 => exact TabU.below HTU.out (by repeat (first | (with_reducible first | exact HB.out | apply below_alloc | apply pw_below_drewN | apply below_drew1) | exact HB.out))); (case side2 => exact TabN.below HTN.out (by repeat (first | (with_reducible first | exact HB.out | apply below_alloc | apply pw_below_drewN | apply below_drew1) | exact HB.out))); (case side3 => exact TabE.below HTE.out (by repeat (first | (with_reducible first | exact HB.out | apply below_alloc | apply pw_below_drewN | apply below_drew1) | exact HB.out))); rintro e w94 ⟨rfl, hb⟩; have n0_ := Aside0.mk (below_step (by repeat (first | (with_reducible first | exact HB.out | apply below_alloc | apply pw_below_drewN | apply below_drew1) | exact HB.out)) hb); clear HB; have HB := n0_; clear n0_; (try clear hb); (try clear hb2); (try clear hk); (try clear hi)) | (go_at_call 32; (with_reducible refine (cognatelaw01_wrong.calls (⟨#[34, 92, 117, 48, 101, 57, 59, 34]⟩ : ByteArray) 1 true _ ?side1 ?side2 ?side3 A73.out).mono ?_); (case side1 => exact TabU.below HTU.out (by repeat (first | (with_reducible first | exact HB.out | apply below_alloc | apply pw_below_drewN | apply below_drew1) | exact HB.out))); (case side2 => exact TabN.below HTN.out (by repeat (first | (with_reducible first | exact HB.out | apply below_alloc | apply pw_below_drewN | apply below_drew1) | exact HB.out))); (case side3 => exact TabE.below HTE.out (by repeat (first | (with_reducible first | exact HB.out | apply below_alloc | apply pw_below_drewN | apply below_drew1) | exact HB.out))); rintro e w95 ⟨rfl, hb⟩; have n0_ := Aside0.mk (below_step (by repeat (first | (with_reducible first | exact HB.out | apply below_alloc | apply pw_below_drewN | apply below_drew1) | exact HB.out)) hb); clear HB; have HB := n0_; clear n0_; (try clear hb); (try clear hb2); (try clear hk); (try clear hi)) | (go_at_call 10; (with_reducible refine (runes_Less.calls kj37 (⟨#[97]⟩ : ByteArray) (⟨#[98]⟩ : ByteArray) true _ ?side1 A75.out).mono ?_); (case side1 => exact TabU.below HTU.out (by repeat (first | (with_reducible first | exact HB.out | apply below_alloc | apply pw_below_drewN | apply below_drew1) | exact HB.out))); rintro e w96 ⟨rfl, hb⟩; have n0_ := Aside0.mk (below_step (by repeat (first | (with_reducible first | exact HB.out | apply below_alloc | apply pw_below_drewN | apply below_drew1) | exact HB.out)) hb); clear HB; have HB := n0_; clear n0_; (try clear hb); (try clear hb2); (try clear hk); (try clear hi)) | (go_at_call 10; (with_reducible refine (runes_Less.calls kj37 (⟨#[97]⟩ : ByteArray) (⟨#[97, 98]⟩ : ByteArray) true _ ?side1 A77.out).mono ?_); (case side1 => exact TabU.below HTU.out (by repeat (first | (with_reducible first | exact HB.out | apply below_alloc | apply pw_below_drewN | apply below_drew1) | exact HB.out))); rintro e w97 ⟨rfl, hb⟩; have n0_ := Aside0.mk (below_step (by repeat (first | (with_reducible first | exact HB.out | apply below_alloc | apply pw_below_drewN | apply below_drew1) | exact HB.out)) hb); clear HB; have HB := n0_; clear n0_; (try clear hb); (try clear hb2); (try clear hk); (try clear hi)) | (go_at_call 10; (with_reducible refine (runes_Less.calls kj37 (⟨#[244, 143, 191, 191]⟩ : ByteArray) (⟨#[128]⟩ : ByteArray) false _ ?side1 A79.out).mono ?_); (case side1 => exact TabU.below HTU.out (by repeat (first | (with_reducible first | exact HB.out | apply below_alloc | apply pw_below_drewN | apply below_drew1) | exact HB.out))); rintro e w98 ⟨rfl, hb⟩; have n0_ := Aside0.mk (below_step (by repeat (first | (with_reducible first | exact HB.out | apply below_alloc | apply pw_below_drewN | apply below_drew1) | exact HB.out)) hb); clear HB; have HB := n0_; clear n0_; (try clear hb); (try clear hb2); (try clear hk); (try clear hi)))
                               go_meet
                               case rel => exact ⟨_, (false), (by first | rfl | (simp; done) | (simp [*]; done)), H', ⟨by have := HJ4.out; have := HJ37.out; first | omega | exact Nat.le_refl _⟩, ⟨by repeat (first | (with_reducible first | exact HB.out | apply below_alloc | apply pw_below_drewN | apply below_drew1) | exact HB.out)⟩⟩
                           · replace c78 := Bool.eq_false_iff.mpr c78
                             subst c78
                             have H1 : (cognatelaw01_RunesNames.j2 kj37 x9_4 x20_37 false) = some true := by rw [if_neg (show ¬ (false = true) by decide)] at H; exact H
                             clear H
                             have H := H1
                             clear H1
                             have H' := Aside0.mk H
                             clear H
                             go_wp2_with (first | ((with_reducible refine gate_callee (f := 32) rfl ?_); refine goesL_ (some 150) rfl rfl Tryd.func32 (by kernel_rfl) rfl #[.string (⟨#[34, 97, 92, 120, 52, 49, 34]⟩ : ByteArray), .int .i64 2] rfl (by (try simp only [List.map_toArray, List.map_cons, List.map_nil]); first | done | rfl | (simp only [List.length_drop, List.length_take]; rfl)) ?_; (with_reducible refine (cognatelaw01_wrong.calls (⟨#[34, 97, 92, 120, 52, 49, 34]⟩ : ByteArray) 2 true _ ?side1 ?side2 ?side3 A65.out).mono ?_); (case side1 => exact TabU.below HTU.out (by repeat (first | (with_reducible first | exact HB.out | apply below_alloc | apply pw_below_drewN | apply below_drew1) | exact HB.out))); (case side2 => exact TabN.below HTN.out (by repeat (first | (with_reducible first | exact HB.out | apply below_alloc | apply pw_below_drewN | apply below_drew1) | exact HB.out))); (case side3 => exact TabE.below HTE.out (by repeat (first | (with_reducible first | exact HB.out | apply below_alloc | apply pw_below_drewN | apply below_drew1) | exact HB.out))); rintro e w99 ⟨rfl, hb⟩; refine ⟨_, rfl, ?_⟩; have n0_ := Aside0.mk (below_step (by repeat (first | (with_reducible first | exact HB.out | apply below_alloc | apply pw_below_drewN | apply below_drew1) | exact HB.out)) hb); clear HB; have HB := n0_; clear n0_; (try clear hb); (try clear hb2); (try clear hk); (try clear hi)) | (go_at_call 32; (with_reducible refine (cognatelaw01_wrong.calls (⟨#[34, 97]⟩ : ByteArray) 2 true _ ?side1 ?side2 ?side3 A67.out).mono ?_); (case side1 => exact TabU.below HTU.out (by repeat (first | (with_reducible first | exact HB.out | apply below_alloc | apply pw_below_drewN | apply below_drew1) | exact HB.out))); (case side2 => exact TabN.below HTN.out (by repeat (first | (with_reducible first | exact HB.out | apply below_alloc | apply pw_below_drewN | apply below_drew1) | exact HB.out))); (case side3 => exact TabE.below HTE.out (by repeat (first | (with_reducible first | exact HB.out | apply below_alloc | apply pw_below_drewN | apply below_drew1) | exact HB.out))); rintro e w100 ⟨rfl, hb⟩; have n0_ := Aside0.mk (below_step (by repeat (first | (with_reducible first | exact HB.out | apply below_alloc | apply pw_below_drewN | apply below_drew1) | exact HB.out)) hb); clear HB; have HB := n0_; clear n0_; (try clear hb); (try clear hb2); (try clear hk); (try clear hi)) | (go_at_call 32; (with_reducible refine (cognatelaw01_wrong.calls (⟨#[97]⟩ : ByteArray) 0 true _ ?side1 ?side2 ?side3 A69.out).mono ?_); (case side1 => exact TabU.below HTU.out (by repeat (first | (with_reducible first | exact HB.out | apply below_alloc | apply pw_below_drewN | apply below_drew1) | exact HB.out))); (case side2 => exact TabN.below HTN.out (by repeat (first | (with_reducible first | exact HB.out | apply below_alloc | apply pw_below_drewN | apply below_drew1) | exact HB.out))); (case side3 => exact TabE.below HTE.out (by repeat (first | (with_reducible first | exact HB.out | apply below_alloc | apply pw_below_drewN | apply below_drew1) | exact HB.out))); rintro e w101 ⟨rfl, hb⟩; have n0_ := Aside0.mk (below_step (by repeat (first | (with_reducible first | exact HB.out | apply below_alloc | apply pw_below_drewN | apply below_drew1) | exact HB.out)) hb); clear HB; have HB := n0_; clear n0_; (try clear hb); (try clear hb2); (try clear hk); (try clear hi)) | (go_at_call 32; (with_reducible refine (cognatelaw01_wrong.calls (⟨#[34, 92, 120, 99, 51, 92, 120, 97, 57, 34]⟩ : ByteArray) 0 true _ ?side1 ?side2 ?side3 A71.out).mono ?_); (case side1 => exact TabU.below HTU.out (by repeat (first | (with_reducible first | exact HB.out | apply below_alloc | apply pw_below_drewN | apply below_drew1) | exact HB.out))); (case side2 => exact TabN.below HTN.out (by repeat (first | (with_reducible first | exact HB.out | apply below_alloc | apply pw_below_drewN | apply below_drew1) | exact HB.out))); (case side3 => exact TabE.below HTE.out (by repeat (first | (with_reducible first | exact HB.out | apply below_alloc | apply pw_below_drewN | apply below_drew1) | exact HB.out))); rintro e w102 ⟨rfl, hb⟩; have n0_ := Aside0.mk (below_step (by repeat (first | (with_reducible first | exact HB.out | apply below_alloc | apply pw_below_drewN | apply below_drew1) | exact HB.out)) hb); clear HB; have HB := n0_; clear n0_; (try clear hb); (try clear hb2); (try clear hk); (try clear hi)) | (go_at_call 32; (with_reducible refine (cognatelaw01_wrong.calls (⟨#[34, 92, 117, 48, 101, 57, 59, 34]⟩ : ByteArray) 1 true _ ?side1 ?side2 ?side3 A73.out).mono ?_); (case side1 => exact TabU.below HTU.out (by repeat (first | (with_reducible first | exact HB.out | apply below_alloc | apply pw_below_drewN | apply below_drew1) | exact HB.out))); (case side2 => exact TabN.below HTN.out (by repeat (first | (with_reducible first | exact HB.out | apply below_alloc | apply pw_below_drewN | apply below_drew1) | exact HB.out))); (case side3 => exact TabE.below HTE.out (by repeat (first | (with_reducible first | exact HB.out | apply below_alloc | apply pw_below_drewN | apply below_drew1) | exact HB.out))); rintro e w103 ⟨rfl, hb⟩; have n0_ := Aside0.mk (below_step (by repeat (first | (with_reducible first | exact HB.out | apply below_alloc | apply pw_below_drewN | apply below_drew1) | exact HB.out)) hb); clear HB; have HB := n0_; clear n0_; (try clear hb); (try clear hb2); (try clear hk); (try clear hi)) | (go_at_call 10; (with_reducible refine (runes_Less.calls kj37 (⟨#[97]⟩ : ByteArray) (⟨#[98]⟩ : ByteArray) true _ ?side1 A75.out).mono ?_); (case side1 => exact TabU.below HTU.out (by repeat (first | (with_reducible first | exact HB.out | apply below_alloc | apply pw_below_drewN | apply below_drew1) | exact HB.out))); rintro e w104 ⟨rfl, hb⟩; have n0_ := Aside0.mk (below_step (by repeat (first | (with_reducible first | exact HB.out | apply below_alloc | apply pw_below_drewN | apply below_drew1) | exact HB.out)) hb); clear HB; have HB := n0_; clear n0_; (try clear hb); (try clear hb2); (try clear hk); (try clear hi)) | (go_at_call 10; (with_reducible refine (runes_Less.calls kj37 (⟨#[97]⟩ : ByteArray) (⟨#[97, 98]⟩ : ByteArray) false _ ?side1 A77.out).mono ?_); (case side1 => exact TabU.below HTU.out (by repeat (first | (with_reducible first | exact HB.out | apply below_alloc | apply pw_below_drewN | apply below_drew1) | exact HB.out))); rintro e w105 ⟨rfl, hb⟩; have n0_ := Aside0.mk (below_step (by repeat (first | (with_reducible first | exact HB.out | apply below_alloc | apply pw_below_drewN | apply below_drew1) | exact HB.out)) hb); clear HB; have HB := n0_; clear n0_; (try clear hb); (try clear hb2); (try clear hk); (try clear hi)))
                             go_meet
                             case rel => exact ⟨_, (false), (by first | rfl | (simp; done) | (simp [*]; done)), H', ⟨by have := HJ4.out; have := HJ37.out; first | omega | exact Nat.le_refl _⟩, ⟨by repeat (first | (with_reducible first | exact HB.out | apply below_alloc | apply pw_below_drewN | apply below_drew1) | exact HB.out)⟩⟩
                         · replace c76 := Bool.eq_false_iff.mpr c76
                           subst c76
                           have H1 : (cognatelaw01_RunesNames.j2 kj37 x9_4 x20_37 false) = some true := by rw [if_neg (show ¬ (false = true) by decide)] at H; exact H
                           clear H
                           have H := H1
                           clear H1
                           have H' := Aside0.mk H
                           clear H
                           go_wp2_with (first | ((with_reducible refine gate_callee (f := 32) rfl ?_); refine goesL_ (some 150) rfl rfl Tryd.func32 (by kernel_rfl) rfl #[.string (⟨#[34, 97, 92, 120, 52, 49, 34]⟩ : ByteArray), .int .i64 2] rfl (by (try simp only [List.map_toArray, List.map_cons, List.map_nil]); first | done | rfl | (simp only [List.length_drop, List.length_take]; rfl)) ?_; (with_reducible refine (cognatelaw01_wrong.calls (⟨#[34, 97, 92, 120, 52, 49, 34]⟩ : ByteArray) 2 true _ ?side1 ?side2 ?side3 A65.out).mono ?_); (case side1 => exact TabU.below HTU.out (by repeat (first | (with_reducible first | exact HB.out | apply below_alloc | apply pw_below_drewN | apply below_drew1) | exact HB.out))); (case side2 => exact TabN.below HTN.out (by repeat (first | (with_reducible first | exact HB.out | apply below_alloc | apply pw_below_drewN | apply below_drew1) | exact HB.out))); (case side3 => exact TabE.below HTE.out (by repeat (first | (with_reducible first | exact HB.out | apply below_alloc | apply pw_below_drewN | apply below_drew1) | exact HB.out))); rintro e w106 ⟨rfl, hb⟩; refine ⟨_, rfl, ?_⟩; have n0_ := Aside0.mk (below_step (by repeat (first | (with_reducible first | exact HB.out | apply below_alloc | apply pw_below_drewN | apply below_drew1) | exact HB.out)) hb); clear HB; have HB := n0_; clear n0_; (try clear hb); (try clear hb2); (try clear hk); (try clear hi)) | (go_at_call 32; (with_reducible refine (cognatelaw01_wrong.calls (⟨#[34, 97]⟩ : ByteArray) 2 true _ ?side1 ?side2 ?side3 A67.out).mono ?_); (case side1 => exact TabU.below HTU.out (by repeat (first | (with_reducible first | exact HB.out | apply below_alloc | apply pw_below_drewN | apply below_drew1) | exact HB.out))); (case side2 => exact TabN.below HTN.out (by repeat (first | (with_reducible first | exact HB.out | apply below_alloc | apply pw_below_drewN | apply below_drew1) | exact HB.out))); (case side3 => exact TabE.below HTE.out (by repeat (first | (with_reducible first | exact HB.out | apply below_alloc | apply pw_below_drewN | apply below_drew1) | exact HB.out))); rintro e w107 ⟨rfl, hb⟩; have n0_ := Aside0.mk (below_step (by repeat (first | (with_reducible first | exact HB.out | apply below_alloc | apply pw_below_drewN | apply below_drew1) | exact HB.out)) hb); clear HB; have HB := n0_; clear n0_; (try clear hb); (try clear hb2); (try clear hk); (try clear hi)) | (go_at_call 32; (with_reducible refine (cognatelaw01_wrong.calls (⟨#[97]⟩ : ByteArray) 0 true _ ?side1 ?side2 ?side3 A69.out).mono ?_); (case side1 => exact TabU.below HTU.out (by repeat (first | (with_reducible first | exact HB.out | apply below_alloc | apply pw_below_drewN | apply below_drew1) | exact HB.out))); (case side2 => exact TabN.below HTN.out (by repeat (first | (with_reducible first | exact HB.out | apply below_alloc | apply pw_below_drewN | apply below_drew1) | exact HB.out))); (case side3 => exact TabE.below HTE.out (by repeat (first | (with_reducible first | exact HB.out | apply below_alloc | apply pw_below_drewN | apply below_drew1) | exact HB.out))); rintro e w108 ⟨rfl, hb⟩; have n0_ := Aside0.mk (below_step (by repeat (first | (with_reducible first | exact HB.out | apply below_alloc | apply pw_below_drewN | apply below_drew1) | exact HB.out)) hb); clear HB; have HB := n0_; clear n0_; (try clear hb); (try clear hb2); (try clear hk); (try clear hi)) | (go_at_call 32; (with_reducible refine (cognatelaw01_wrong.calls (⟨#[34, 92, 120, 99, 51, 92, 120, 97, 57, 34]⟩ : ByteArray) 0 true _ ?side1 ?side2 ?side3 A71.out).mono ?_); (case side1 => exact TabU.below HTU.out (by repeat (first | (with_reducible first | exact HB.out | apply below_alloc | apply pw_below_drewN | apply below_drew1) | exact HB.out))); (case side2 => exact TabN.below HTN.out (by repeat (first | (with_reducible first | exact HB.out | apply below_alloc | apply pw_below_drewN | apply below_drew1) | exact HB.out))); (case side3 => exact TabE.below HTE.out (by repeat (first | (with_reducible first | exact HB.out | apply below_alloc | apply pw_below_drewN | apply below_drew1) | exact HB.out))); rintro e w109 ⟨rfl, hb⟩; have n0_ := Aside0.mk (below_step (by repeat (first | (with_reducible first | exact HB.out | apply below_alloc | apply pw_below_drewN | apply below_drew1) | exact HB.out)) hb); clear HB; have HB := n0_; clear n0_; (try clear hb); (try clear hb2); (try clear hk); (try clear hi)) | (go_at_call 32; (with_reducible refine (cognatelaw01_wrong.calls (⟨#[34, 92, 117, 48, 101, 57, 59, 34]⟩ : ByteArray) 1 true _ ?side1 ?side2 ?side3 A73.out).mono ?_); (case side1 => exact TabU.below HTU.out (by repeat (first | (with_reducible first | exact HB.out | apply below_alloc | apply pw_below_drewN | apply below_drew1) | exact HB.out))); (case side2 => exact TabN.below HTN.out (by repeat (first | (with_reducible first | exact HB.out | apply below_alloc | apply pw_below_drewN | apply below_drew1) | exact HB.out))); (case side3 => exact TabE.below HTE.out (by repeat (first | (with_reducible first | exact HB.out | apply below_alloc | apply pw_below_drewN | apply below_drew1) | exact HB.out))); rintro e w110 ⟨rfl, hb⟩; have n0_ := Aside0.mk (below_step (by repeat (first | (with_reducible first | exact HB.out | apply below_alloc | apply pw_below_drewN | apply below_drew1) | exact HB.out)) hb); clear HB; have HB := n0_; clear n0_; (try clear hb); (try clear hb2); (try clear hk); (try clear hi)) | (go_at_call 10; (with_reducible refine (runes_Less.calls kj37 (⟨#[97]⟩ : ByteArray) (⟨#[98]⟩ : ByteArray) false _ ?side1 A75.out).mono ?_); (case side1 => exact TabU.below HTU.out (by repeat (first | (with_reducible first | exact HB.out | apply below_alloc | apply pw_below_drewN | apply below_drew1) | exact HB.out))); rintro e w111 ⟨rfl, hb⟩; have n0_ := Aside0.mk (below_step (by repeat (first | (with_reducible first | exact HB.out | apply below_alloc | apply pw_below_drewN | apply below_drew1) | exact HB.out)) hb); clear HB; have HB := n0_; clear n0_; (try clear hb); (try clear hb2); (try clear hk); (try clear hi)))
                           go_meet
                           case rel => exact ⟨_, (false), (by first | rfl | (simp; done) | (simp [*]; done)), H', ⟨by have := HJ4.out; have := HJ37.out; first | omega | exact Nat.le_refl _⟩, ⟨by repeat (first | (with_reducible first | exact HB.out | apply below_alloc | apply pw_below_drewN | apply below_drew1) | exact HB.out)⟩⟩
                       · replace c74 := Bool.eq_false_iff.mpr c74
                         subst c74
                         have H1 : (cognatelaw01_RunesNames.j2 kj37 x9_4 x20_37 false) = some true := by rw [if_neg (show ¬ (false = true) by decide)] at H; exact H
                         clear H
                         have H := H1
                         clear H1
                         have H' := Aside0.mk H
                         clear H
                         go_wp2_with (first | ((with_reducible refine gate_callee (f := 32) rfl ?_); refine goesL_ (some 150) rfl rfl Tryd.func32 (by kernel_rfl) rfl #[.string (⟨#[34, 97, 92, 120, 52, 49, 34]⟩ : ByteArray), .int .i64 2] rfl (by (try simp only [List.map_toArray, List.map_cons, List.map_nil]); first | done | rfl | (simp only [List.length_drop, List.length_take]; rfl)) ?_; (with_reducible refine (cognatelaw01_wrong.calls (⟨#[34, 97, 92, 120, 52, 49, 34]⟩ : ByteArray) 2 true _ ?side1 ?side2 ?side3 A65.out).mono ?_); (case side1 => exact TabU.below HTU.out (by repeat (first | (with_reducible first | exact HB.out | apply below_alloc | apply pw_below_drewN | apply below_drew1) | exact HB.out))); (case side2 => exact TabN.below HTN.out (by repeat (first | (with_reducible first | exact HB.out | apply below_alloc | apply pw_below_drewN | apply below_drew1) | exact HB.out))); (case side3 => exact TabE.below HTE.out (by repeat (first | (with_reducible first | exact HB.out | apply below_alloc | apply pw_below_drewN | apply below_drew1) | exact HB.out))); rintro e w112 ⟨rfl, hb⟩; refine ⟨_, rfl, ?_⟩; have n0_ := Aside0.mk (below_step (by repeat (first | (with_reducible first | exact HB.out | apply below_alloc | apply pw_below_drewN | apply below_drew1) | exact HB.out)) hb); clear HB; have HB := n0_; clear n0_; (try clear hb); (try clear hb2); (try clear hk); (try clear hi)) | (go_at_call 32; (with_reducible refine (cognatelaw01_wrong.calls (⟨#[34, 97]⟩ : ByteArray) 2 true _ ?side1 ?side2 ?side3 A67.out).mono ?_); (case side1 => exact TabU.below HTU.out (by repeat (first | (with_reducible first | exact HB.out | apply below_alloc | apply pw_below_drewN | apply below_drew1) | exact HB.out))); (case side2 => exact TabN.below HTN.out (by repeat (first | (with_reducible first | exact HB.out | apply below_alloc | apply pw_below_drewN | apply below_drew1) | exact HB.out))); (case side3 => exact TabE.below HTE.out (by repeat (first | (with_reducible first | exact HB.out | apply below_alloc | apply pw_below_drewN | apply below_drew1) | exact HB.out))); rintro e w113 ⟨rfl, hb⟩; have n0_ := Aside0.mk (below_step (by repeat (first | (with_reducible first | exact HB.out | apply below_alloc | apply pw_below_drewN | apply below_drew1) | exact HB.out)) hb); clear HB; have HB := n0_; clear n0_; (try clear hb); (try clear hb2); (try clear hk); (try clear hi)) | (go_at_call 32; (with_reducible refine (cognatelaw01_wrong.calls (⟨#[97]⟩ : ByteArray) 0 true _ ?side1 ?side2 ?side3 A69.out).mono ?_); (case side1 => exact TabU.below HTU.out (by repeat (first | (with_reducible first | exact HB.out | apply below_alloc | apply pw_below_drewN | apply below_drew1) | exact HB.out))); (case side2 => exact TabN.below HTN.out (by repeat (first | (with_reducible first | exact HB.out | apply below_alloc | apply pw_below_drewN | apply below_drew1) | exact HB.out))); (case side3 => exact TabE.below HTE.out (by repeat (first | (with_reducible first | exact HB.out | apply below_alloc | apply pw_below_drewN | apply below_drew1) | exact HB.out))); rintro e w114 ⟨rfl, hb⟩; have n0_ := Aside0.mk (below_step (by repeat (first | (with_reducible first | exact HB.out | apply below_alloc | apply pw_below_drewN | apply below_drew1) | exact HB.out)) hb); clear HB; have HB := n0_; clear n0_; (try clear hb); (try clear hb2); (try clear hk); (try clear hi)) | (go_at_call 32; (with_reducible refine (cognatelaw01_wrong.calls (⟨#[34, 92, 120, 99, 51, 92, 120, 97, 57, 34]⟩ : ByteArray) 0 true _ ?side1 ?side2 ?side3 A71.out).mono ?_); (case side1 => exact TabU.below HTU.out (by repeat (first | (with_reducible first | exact HB.out | apply below_alloc | apply pw_below_drewN | apply below_drew1) | exact HB.out))); (case side2 => exact TabN.below HTN.out (by repeat (first | (with_reducible first | exact HB.out | apply below_alloc | apply pw_below_drewN | apply below_drew1) | exact HB.out))); (case side3 => exact TabE.below HTE.out (by repeat (first | (with_reducible first | exact HB.out | apply below_alloc | apply pw_below_drewN | apply below_drew1) | exact HB.out))); rintro e w115 ⟨rfl, hb⟩; have n0_ := Aside0.mk (below_step (by repeat (first | (with_reducible first | exact HB.out | apply below_alloc | apply pw_below_drewN | apply below_drew1) | exact HB.out)) hb); clear HB; have HB := n0_; clear n0_; (try clear hb); (try clear hb2); (try clear hk); (try clear hi)) | (go_at_call 32; (with_reducible refine (cognatelaw01_wrong.calls (⟨#[34, 92, 117, 48, 101, 57, 59, 34]⟩ : ByteArray) 1 false _ ?side1 ?side2 ?side3 A73.out).mono ?_); (case side1 => exact TabU.below HTU.out (by repeat (first | (with_reducible first | exact HB.out | apply below_alloc | apply pw_below_drewN | apply below_drew1) | exact HB.out))); (case side2 => exact TabN.below HTN.out (by repeat (first | (with_reducible first | exact HB.out | apply below_alloc | apply pw_below_drewN | apply below_drew1) | exact HB.out))); (case side3 => exact TabE.below HTE.out (by repeat (first | (with_reducible first | exact HB.out | apply below_alloc | apply pw_below_drewN | apply below_drew1) | exact HB.out))); rintro e w116 ⟨rfl, hb⟩; have n0_ := Aside0.mk (below_step (by repeat (first | (with_reducible first | exact HB.out | apply below_alloc | apply pw_below_drewN | apply below_drew1) | exact HB.out)) hb); clear HB; have HB := n0_; clear n0_; (try clear hb); (try clear hb2); (try clear hk); (try clear hi)))
                         go_meet
                         case rel => exact ⟨_, (false), (by first | rfl | (simp; done) | (simp [*]; done)), H', ⟨by have := HJ4.out; have := HJ37.out; first | omega | exact Nat.le_refl _⟩, ⟨by repeat (first | (with_reducible first | exact HB.out | apply below_alloc | apply pw_below_drewN | apply below_drew1) | exact HB.out)⟩⟩
                     · replace c72 := Bool.eq_false_iff.mpr c72
                       subst c72
                       have H1 : (cognatelaw01_RunesNames.j2 kj37 x9_4 x20_37 false) = some true := by rw [if_neg (show ¬ (false = true) by decide)] at H; exact H
                       clear H
                       have H := H1
                       clear H1
                       have H' := Aside0.mk H
                       clear H
                       go_wp2_with (first | ((with_reducible refine gate_callee (f := 32) rfl ?_); refine goesL_ (some 150) rfl rfl Tryd.func32 (by kernel_rfl) rfl #[.string (⟨#[34, 97, 92, 120, 52, 49, 34]⟩ : ByteArray), .int .i64 2] rfl (by (try simp only [List.map_toArray, List.map_cons, List.map_nil]); first | done | rfl | (simp only [List.length_drop, List.length_take]; rfl)) ?_; (with_reducible refine (cognatelaw01_wrong.calls (⟨#[34, 97, 92, 120, 52, 49, 34]⟩ : ByteArray) 2 true _ ?side1 ?side2 ?side3 A65.out).mono ?_); (case side1 => exact TabU.below HTU.out (by repeat (first | (with_reducible first | exact HB.out | apply below_alloc | apply pw_below_drewN | apply below_drew1) | exact HB.out))); (case side2 => exact TabN.below HTN.out (by repeat (first | (with_reducible first | exact HB.out | apply below_alloc | apply pw_below_drewN | apply below_drew1) | exact HB.out))); (case side3 => exact TabE.below HTE.out (by repeat (first | (with_reducible first | exact HB.out | apply below_alloc | apply pw_below_drewN | apply below_drew1) | exact HB.out))); rintro e w117 ⟨rfl, hb⟩; refine ⟨_, rfl, ?_⟩; have n0_ := Aside0.mk (below_step (by repeat (first | (with_reducible first | exact HB.out | apply below_alloc | apply pw_below_drewN | apply below_drew1) | exact HB.out)) hb); clear HB; have HB := n0_; clear n0_; (try clear hb); (try clear hb2); (try clear hk); (try clear hi)) | (go_at_call 32; (with_reducible refine (cognatelaw01_wrong.calls (⟨#[34, 97]⟩ : ByteArray) 2 true _ ?side1 ?side2 ?side3 A67.out).mono ?_); (case side1 => exact TabU.below HTU.out (by repeat (first | (with_reducible first | exact HB.out | apply below_alloc | apply pw_below_drewN | apply below_drew1) | exact HB.out))); (case side2 => exact TabN.below HTN.out (by repeat (first | (with_reducible first | exact HB.out | apply below_alloc | apply pw_below_drewN | apply below_drew1) | exact HB.out))); (case side3 => exact TabE.below HTE.out (by repeat (first | (with_reducible first | exact HB.out | apply below_alloc | apply pw_below_drewN | apply below_drew1) | exact HB.out))); rintro e w118 ⟨rfl, hb⟩; have n0_ := Aside0.mk (below_step (by repeat (first | (with_reducible first | exact HB.out | apply below_alloc | apply pw_below_drewN | apply below_drew1) | exact HB.out)) hb); clear HB; have HB := n0_; clear n0_; (try clear hb); (try clear hb2); (try clear hk); (try clear hi)) | (go_at_call 32; (with_reducible refine (cognatelaw01_wrong.calls (⟨#[97]⟩ : ByteArray) 0 true _ ?side1 ?side2 ?side3 A69.out).mono ?_); (case side1 => exact TabU.below HTU.out (by repeat (first | (with_reducible first | exact HB.out | apply below_alloc | apply pw_below_drewN | apply below_drew1) | exact HB.out))); (case side2 => exact TabN.below HTN.out (by repeat (first | (with_reducible first | exact HB.out | apply below_alloc | apply pw_below_drewN | apply below_drew1) | exact HB.out))); (case side3 => exact TabE.below HTE.out (by repeat (first | (with_reducible first | exact HB.out | apply below_alloc | apply pw_below_drewN | apply below_drew1) | exact HB.out))); rintro e w119 ⟨rfl, hb⟩; have n0_ := Aside0.mk (below_step (by repeat (first | (with_reducible first | exact HB.out | apply below_alloc | apply pw_below_drewN | apply below_drew1) | exact HB.out)) hb); clear HB; have HB := n0_; clear n0_; (try clear hb); (try clear hb2); (try clear hk); (try clear hi)) | (go_at_call 32; (with_reducible refine (cognatelaw01_wrong.calls (⟨#[34, 92, 120, 99, 51, 92, 120, 97, 57, 34]⟩ : ByteArray) 0 false _ ?side1 ?side2 ?side3 A71.out).mono ?_); (case side1 => exact TabU.below HTU.out (by repeat (first | (with_reducible first | exact HB.out | apply below_alloc | apply pw_below_drewN | apply below_drew1) | exact HB.out))); (case side2 => exact TabN.below HTN.out (by repeat (first | (with_reducible first | exact HB.out | apply below_alloc | apply pw_below_drewN | apply below_drew1) | exact HB.out))); (case side3 => exact TabE.below HTE.out (by repeat (first | (with_reducible first | exact HB.out | apply below_alloc | apply pw_below_drewN | apply below_drew1) | exact HB.out))); rintro e w120 ⟨rfl, hb⟩; have n0_ := Aside0.mk (below_step (by repeat (first | (with_reducible first | exact HB.out | apply below_alloc | apply pw_below_drewN | apply below_drew1) | exact HB.out)) hb); clear HB; have HB := n0_; clear n0_; (try clear hb); (try clear hb2); (try clear hk); (try clear hi)))
                       go_meet
                       case rel => exact ⟨_, (false), (by first | rfl | (simp; done) | (simp [*]; done)), H', ⟨by have := HJ4.out; have := HJ37.out; first | omega | exact Nat.le_refl _⟩, ⟨by repeat (first | (with_reducible first | exact HB.out | apply below_alloc | apply pw_below_drewN | apply below_drew1) | exact HB.out)⟩⟩
                   · replace c70 := Bool.eq_false_iff.mpr c70
                     subst c70
                     have H1 : (cognatelaw01_RunesNames.j2 kj37 x9_4 x20_37 false) = some true := by rw [if_neg (show ¬ (false = true) by decide)] at H; exact H
                     clear H
                     have H := H1
                     clear H1
                     have H' := Aside0.mk H
                     clear H
                     go_wp2_with (first | ((with_reducible refine gate_callee (f := 32) rfl ?_); refine goesL_ (some 150) rfl rfl Tryd.func32 (by kernel_rfl) rfl #[.string (⟨#[34, 97, 92, 120, 52, 49, 34]⟩ : ByteArray), .int .i64 2] rfl (by (try simp only [List.map_toArray, List.map_cons, List.map_nil]); first | done | rfl | (simp only [List.length_drop, List.length_take]; rfl)) ?_; (with_reducible refine (cognatelaw01_wrong.calls (⟨#[34, 97, 92, 120, 52, 49, 34]⟩ : ByteArray) 2 true _ ?side1 ?side2 ?side3 A65.out).mono ?_); (case side1 => exact TabU.below HTU.out (by repeat (first | (with_reducible first | exact HB.out | apply below_alloc | apply pw_below_drewN | apply below_drew1) | exact HB.out))); (case side2 => exact TabN.below HTN.out (by repeat (first | (with_reducible first | exact HB.out | apply below_alloc | apply pw_below_drewN | apply below_drew1) | exact HB.out))); (case side3 => exact TabE.below HTE.out (by repeat (first | (with_reducible first | exact HB.out | apply below_alloc | apply pw_below_drewN | apply below_drew1) | exact HB.out))); rintro e w121 ⟨rfl, hb⟩; refine ⟨_, rfl, ?_⟩; have n0_ := Aside0.mk (below_step (by repeat (first | (with_reducible first | exact HB.out | apply below_alloc | apply pw_below_drewN | apply below_drew1) | exact HB.out)) hb); clear HB; have HB := n0_; clear n0_; (try clear hb); (try clear hb2); (try clear hk); (try clear hi)) | (go_at_call 32; (with_reducible refine (cognatelaw01_wrong.calls (⟨#[34, 97]⟩ : ByteArray) 2 true _ ?side1 ?side2 ?side3 A67.out).mono ?_); (case side1 => exact TabU.below HTU.out (by repeat (first | (with_reducible first | exact HB.out | apply below_alloc | apply pw_below_drewN | apply below_drew1) | exact HB.out))); (case side2 => exact TabN.below HTN.out (by repeat (first | (with_reducible first | exact HB.out | apply below_alloc | apply pw_below_drewN | apply below_drew1) | exact HB.out))); (case side3 => exact TabE.below HTE.out (by repeat (first | (with_reducible first | exact HB.out | apply below_alloc | apply pw_below_drewN | apply below_drew1) | exact HB.out))); rintro e w122 ⟨rfl, hb⟩; have n0_ := Aside0.mk (below_step (by repeat (first | (with_reducible first | exact HB.out | apply below_alloc | apply pw_below_drewN | apply below_drew1) | exact HB.out)) hb); clear HB; have HB := n0_; clear n0_; (try clear hb); (try clear hb2); (try clear hk); (try clear hi)) | (go_at_call 32; (with_reducible refine (cognatelaw01_wrong.calls (⟨#[97]⟩ : ByteArray) 0 false _ ?side1 ?side2 ?side3 A69.out).mono ?_); (case side1 => exact TabU.below HTU.out (by repeat (first | (with_reducible first | exact HB.out | apply below_alloc | apply pw_below_drewN | apply below_drew1) | exact HB.out))); (case side2 => exact TabN.below HTN.out (by repeat (first | (with_reducible first | exact HB.out | apply below_alloc | apply pw_below_drewN | apply below_drew1) | exact HB.out))); (case side3 => exact TabE.below HTE.out (by repeat (first | (with_reducible first | exact HB.out | apply below_alloc | apply pw_below_drewN | apply below_drew1) | exact HB.out))); rintro e w123 ⟨rfl, hb⟩; have n0_ := Aside0.mk (below_step (by repeat (first | (with_reducible first | exact HB.out | apply below_alloc | apply pw_below_drewN | apply below_drew1) | exact HB.out)) hb); clear HB; have HB := n0_; clear n0_; (try clear hb); (try clear hb2); (try clear hk); (try clear hi)))
                     go_meet
                     case rel => exact ⟨_, (false), (by first | rfl | (simp; done) | (simp [*]; done)), H', ⟨by have := HJ4.out; have := HJ37.out; first | omega | exact Nat.le_refl _⟩, ⟨by repeat (first | (with_reducible first | exact HB.out | apply below_alloc | apply pw_below_drewN | apply below_drew1) | exact HB.out)⟩⟩
                 · replace c68 := Bool.eq_false_iff.mpr c68
                   subst c68
                   have H1 : (cognatelaw01_RunesNames.j2 kj37 x9_4 x20_37 false) = some true := by rw [if_neg (show ¬ (false = true) by decide)] at H; exact H
                   clear H
                   have H := H1
                   clear H1
                   have H' := Aside0.mk H
                   clear H
                   go_wp2_with (first | ((with_reducible refine gate_callee (f := 32) rfl ?_); refine goesL_ (some 150) rfl rfl Tryd.func32 (by kernel_rfl) rfl #[.string (⟨#[34, 97, 92, 120, 52, 49, 34]⟩ : ByteArray), .int .i64 2] rfl (by (try simp only [List.map_toArray, List.map_cons, List.map_nil]); first | done | rfl | (simp only [List.length_drop, List.length_take]; rfl)) ?_; (with_reducible refine (cognatelaw01_wrong.calls (⟨#[34, 97, 92, 120, 52, 49, 34]⟩ : ByteArray) 2 true _ ?side1 ?side2 ?side3 A65.out).mono ?_); (case side1 => exact TabU.below HTU.out (by repeat (first | (with_reducible first | exact HB.out | apply below_alloc | apply pw_below_drewN | apply below_drew1) | exact HB.out))); (case side2 => exact TabN.below HTN.out (by repeat (first | (with_reducible first | exact HB.out | apply below_alloc | apply pw_below_drewN | apply below_drew1) | exact HB.out))); (case side3 => exact TabE.below HTE.out (by repeat (first | (with_reducible first | exact HB.out | apply below_alloc | apply pw_below_drewN | apply below_drew1) | exact HB.out))); rintro e w124 ⟨rfl, hb⟩; refine ⟨_, rfl, ?_⟩; have n0_ := Aside0.mk (below_step (by repeat (first | (with_reducible first | exact HB.out | apply below_alloc | apply pw_below_drewN | apply below_drew1) | exact HB.out)) hb); clear HB; have HB := n0_; clear n0_; (try clear hb); (try clear hb2); (try clear hk); (try clear hi)) | (go_at_call 32; (with_reducible refine (cognatelaw01_wrong.calls (⟨#[34, 97]⟩ : ByteArray) 2 false _ ?side1 ?side2 ?side3 A67.out).mono ?_); (case side1 => exact TabU.below HTU.out (by repeat (first | (with_reducible first | exact HB.out | apply below_alloc | apply pw_below_drewN | apply below_drew1) | exact HB.out))); (case side2 => exact TabN.below HTN.out (by repeat (first | (with_reducible first | exact HB.out | apply below_alloc | apply pw_below_drewN | apply below_drew1) | exact HB.out))); (case side3 => exact TabE.below HTE.out (by repeat (first | (with_reducible first | exact HB.out | apply below_alloc | apply pw_below_drewN | apply below_drew1) | exact HB.out))); rintro e w125 ⟨rfl, hb⟩; have n0_ := Aside0.mk (below_step (by repeat (first | (with_reducible first | exact HB.out | apply below_alloc | apply pw_below_drewN | apply below_drew1) | exact HB.out)) hb); clear HB; have HB := n0_; clear n0_; (try clear hb); (try clear hb2); (try clear hk); (try clear hi)))
                   go_meet
                   case rel => exact ⟨_, (false), (by first | rfl | (simp; done) | (simp [*]; done)), H', ⟨by have := HJ4.out; have := HJ37.out; first | omega | exact Nat.le_refl _⟩, ⟨by repeat (first | (with_reducible first | exact HB.out | apply below_alloc | apply pw_below_drewN | apply below_drew1) | exact HB.out)⟩⟩
               · replace c66 := Bool.eq_false_iff.mpr c66
                 subst c66
                 have H1 : (cognatelaw01_RunesNames.j2 kj37 x9_4 x20_37 false) = some true := by rw [if_neg (show ¬ (false = true) by decide)] at H; exact H
                 clear H
                 have H := H1
                 clear H1
                 have H' := Aside0.mk H
                 clear H
                 go_wp2_with (first | ((with_reducible refine gate_callee (f := 32) rfl ?_); refine goesL_ (some 150) rfl rfl Tryd.func32 (by kernel_rfl) rfl #[.string (⟨#[34, 97, 92, 120, 52, 49, 34]⟩ : ByteArray), .int .i64 2] rfl (by (try simp only [List.map_toArray, List.map_cons, List.map_nil]); first | done | rfl | (simp only [List.length_drop, List.length_take]; rfl)) ?_; (with_reducible refine (cognatelaw01_wrong.calls (⟨#[34, 97, 92, 120, 52, 49, 34]⟩ : ByteArray) 2 false _ ?side1 ?side2 ?side3 A65.out).mono ?_); (case side1 => exact TabU.below HTU.out (by repeat (first | (with_reducible first | exact HB.out | apply below_alloc | apply pw_below_drewN | apply below_drew1) | exact HB.out))); (case side2 => exact TabN.below HTN.out (by repeat (first | (with_reducible first | exact HB.out | apply below_alloc | apply pw_below_drewN | apply below_drew1) | exact HB.out))); (case side3 => exact TabE.below HTE.out (by repeat (first | (with_reducible first | exact HB.out | apply below_alloc | apply pw_below_drewN | apply below_drew1) | exact HB.out))); rintro e w126 ⟨rfl, hb⟩; refine ⟨_, rfl, ?_⟩; have n0_ := Aside0.mk (below_step (by repeat (first | (with_reducible first | exact HB.out | apply below_alloc | apply pw_below_drewN | apply below_drew1) | exact HB.out)) hb); clear HB; have HB := n0_; clear n0_; (try clear hb); (try clear hb2); (try clear hk); (try clear hi)))
                 go_meet
                 case rel => exact ⟨_, (false), (by first | rfl | (simp; done) | (simp [*]; done)), H', ⟨by have := HJ4.out; have := HJ37.out; first | omega | exact Nat.le_refl _⟩, ⟨by repeat (first | (with_reducible first | exact HB.out | apply below_alloc | apply pw_below_drewN | apply below_drew1) | exact HB.out)⟩⟩
            as_aux_lemma =>
             case rest =>
               clear HC64
               try clear c1
               try clear p1
               try clear q1
               try clear hx1
               try clear qi1
               try clear c2
               try clear p2
               try clear c3
               try clear c4
               try clear c5
               try clear c6
               try clear c7
               try clear c8
               try clear c10
               try clear c10b0
               try clear c10b1
               try clear c11
               try clear c11b0
               try clear c11b1
               try clear p11
               try clear q11
               try clear hx11
               try clear qi11
               try clear c12
               try clear c13
               try clear c13b0
               try clear c13b1
               try clear c13b2
               try clear c14
               try clear c15
               try clear c15b0
               try clear c15b1
               try clear c15b2
               try clear c16
               try clear c17
               try clear c17b0
               try clear c17b1
               try clear c17b2
               try clear c18
               try clear c18b0
               try clear c18b1
               try clear c19
               try clear c19b0
               try clear c19b1
               try clear c20
               try clear c20b0
               try clear c20b1
               try clear c21
               try clear c21b0
               try clear c21b1
               try clear c22
               try clear c22b0
               try clear c22b1
               try clear c27
               try clear c32
               try clear c44
               try clear c44b0
               try clear c44b1
               try clear c45
               try clear c45b0
               try clear c45b1
               try clear c46
               try clear c46b0
               try clear c46b1
               try clear c47
               try clear c47b0
               try clear c47b1
               try clear c48
               try clear c48b0
               try clear c48b1
               try clear c49
               try clear c49b0
               try clear c49b1
               try clear c50
               try clear c50b0
               try clear c50b1
               try clear c51
               try clear c51b0
               try clear c51b1
               try clear c53
               try clear c53b0
               try clear c53b1
               try clear c66
               try clear c68
               try clear c70
               try clear c72
               try clear c74
               try clear c76
               try clear c78
               try clear c80
               try clear p111
               try clear q111
               try clear hx111
               try clear qi111
               try clear p112
               try clear q112
               try clear hx112
               try clear p113
               try clear q113
               try clear hx113
               try clear hx111_0
               try clear hx111_1
               try clear hx111_2
               try clear hx111_3
               try clear hx112_0
               try clear hx112_1
               try clear hx112_2
               try clear hx112_3
               try clear hx113_0
               try clear hx113_1
               try clear hx113_2
               try clear hx113_3
               try clear p1
               try clear p11
               try clear p111
               try clear p112
               try clear p113
               try clear p2
               try clear q1
               try clear q11
               try clear q111
               try clear q112
               try clear q113
               obtain ⟨kq, x21_63, rfl, HA, HJ63, HB⟩ := hcut
               cases kq with
               | zero => exact absurd HA.out (by simp [cognatelaw01_RunesNames.j2])
               | succ kj63 =>
                 have H := HA.out
                 clear HA
                 simp only [cognatelaw01_RunesNames.j2] at H
                 replace H := Option.bind_eq_some_iff.mp H
                 obtain ⟨t141, A1270, H⟩ := H
                 replace H : (if t141 = true then (if x9_4 = true then (if x20_37 = true then (some x21_63) else (some false)) else (some false)) else (some false)) = some true := H
                 have A127 := Aside0.mk A1270
                 clear A1270
                 by_cases c128 : t141 = true
                 · subst c128
                   have H1 : (if x9_4 = true then (if x20_37 = true then (some x21_63) else (some false)) else (some false)) = some true := by rw [if_pos rfl] at H; exact H
                   clear H
                   have H := H1
                   clear H1
                   by_cases c129 : x9_4 = true
                   · subst c129
                     have H1 : (if x20_37 = true then (some x21_63) else (some false)) = some true := by rw [if_pos rfl] at H; exact H
                     clear H
                     have H := H1
                     clear H1
                     by_cases c130 : x20_37 = true
                     · subst c130
                       have H1 : (some x21_63) = some true := by rw [if_pos rfl] at H; exact H
                       clear H
                       have H := H1
                       clear H1
                       obtain rfl := Option.some.inj H
                       go_wp2_with (first | (go_at_call 24; (with_reducible refine (cognatelaw01_alive.calls kj63  true _ ?side1 ?side2 A127.out).mono ?_); (case side1 => exact TabU.below HTU.out (by repeat (first | (with_reducible first | exact HB.out | apply below_alloc | apply pw_below_drewN | apply below_drew1) | exact HB.out))); (case side2 => exact TabN.below HTN.out (by repeat (first | (with_reducible first | exact HB.out | apply below_alloc | apply pw_below_drewN | apply below_drew1) | exact HB.out))); rintro e w131 ⟨rfl, hb⟩; have n0_ := Aside0.mk (below_step (by repeat (first | (with_reducible first | exact HB.out | apply below_alloc | apply pw_below_drewN | apply below_drew1) | exact HB.out)) hb); clear HB; have HB := n0_; clear n0_; (try clear hb); (try clear hb2); (try clear hk); (try clear hi)))
                       go_ret
                       exact ⟨by first | rfl | (simp [errW_none, errW_some] <;> rfl) | (simp [*, errW_none, errW_some] <;> rfl), by repeat (first | (with_reducible first | exact HB.out | apply below_alloc | apply pw_below_drewN | apply below_drew1) | exact HB.out)⟩
                     · replace c130 := Bool.eq_false_iff.mpr c130
                       subst c130
                       have H1 : (some false) = some true := by rw [if_neg (show ¬ (false = true) by decide)] at H; exact H
                       exact absurd H1 (by simp)
                   · replace c129 := Bool.eq_false_iff.mpr c129
                     subst c129
                     have H1 : (some false) = some true := by rw [if_neg (show ¬ (false = true) by decide)] at H; exact H
                     exact absurd H1 (by simp)
                 · replace c128 := Bool.eq_false_iff.mpr c128
                   subst c128
                   have H1 : (some false) = some true := by rw [if_neg (show ¬ (false = true) by decide)] at H; exact H
                   exact absurd H1 (by simp)

/-- THE ONE PURE STATEMENT of cognatelaw01_RunesNames: yours. -/
def cognatelaw01_RunesNames.Pure : Prop := ∃ k, cognatelaw01_RunesNames.f k  = some true
theorem cognatelaw01_RunesNames.walk (P : cognatelaw01_RunesNames.Pure)  (w : World) (hTU : TabU w) (hTN : TabN w) (hTE : TabE w)  :
    Calls Tryd.prog 9 #[] w fun e w' => e = .returned (.bool true) ∧ Below w.heap.size w w' := by
  obtain ⟨k, h⟩ := P  
  refine (cognatelaw01_RunesNames.calls k w hTU hTN hTE h).mono ?_
  rintro e w' ⟨rfl, hd⟩
  exact ⟨rfl, hd⟩

end Go.Proofs.YtglaagoblcpggaaDoor.R
