-- Written by my program oprint.py (a driver round the kit's printer) out of the translation. Lean checks it.
import Derived.Test.YtglaagoblcpggaaDoorK
import Derived.Test.YtglaagoblcpggaaDoorF12
import Derived.Test.YtglaagoblcpggaaDoorF14
import Derived.Test.YtglaagoblcpggaaDoorF15
import Derived.Test.YtglaagoblcpggaaDoorF16
import Derived.Test.YtglaagoblcpggaaDoorF18
import Derived.Test.YtglaagoblcpggaaDoorF22
import Derived.Test.YtglaagoblcpggaaDoorF23
import Derived.Test.YtglaagoblcpggaaDoorHB
import Derived.Test.YtglaagoblcpggaaDoorHP
import Derived.Test.YtglaagoblcpggaaDoorHQ
import Derived.Test.YtglaagoblcpggaaDoorHR
import Derived.Test.YtglaagoblcpggaaDoorHT
import Derived.Test.YtglaagoblcpggaaDoorTabs
namespace Go.Proofs.YtglaagoblcpggaaDoor.R
open Go.RowKit Go.Proofs.YtglaagoblcpggaaDoorW.PrintWords Go.Proofs.YtglaagoblcpggaaDoorW.PrintLast Go.Proofs.YtglaagoblcpggaaDoorW.PrintMore
attribute [local go_sem] max2_int min2_int max_two min_two max_three min_three max_four min_four   -- for this text's walks alone
set_option linter.unusedVariables false
set_option linter.unusedSimpArgs false

/-! ### cognatelaw01_RunesTexts: function 4 -/
mutual
def cognatelaw01_RunesTexts.j0 : Nat → ByteArray → List (S35) → List (S35) → Int → Bool → Option (Bool)
  | 0, _, _, _, _, _ => none
  | k + 1, x0, x7, x9, x10, x134 => if x134 = true then (some false) else (cognatelaw01_RunesTexts.l0 k x0 x7 x9 x10 0)
def cognatelaw01_RunesTexts.l0 : Nat → ByteArray → List (S35) → List (S35) → Int → Int → Option (Bool)
  | 0, _, _, _, _, _ => none
  | k + 1, x0, x7, x9, x10, x27 => if x27 < (x7.length : Int) then (if 0 ≤ x27 then (cognatelaw01_RunesTexts.l0 k x0 (x7.set (x27 : Int).toNat (⟨77, 0, 0, false⟩ : S35)) x9 x10 (wrap64 (x27 + 1))) else (none)) else ((runes_Pieces.f x0).bind fun bt128 => (if bt128.2 = x10 then ((cognateref01_Same.f k bt128.1 x9).bind fun t132 => (some t132)) else (some false)))
end
def cognatelaw01_RunesTexts.f (k : Nat) (a0 : ByteArray) (a1 : Int) (a2 : Int) : Option (Bool) := (cognatelaw01_long.f a0).bind fun t101 => (if t101 = true then (some true) else ((runes_Pieces.f a0).bind fun bt102 => ((cognateref01_Pieces.f k a0).bind fun bt106 => ((runes_Len.f a0).bind fun bt110 => ((cognateref01_Len.f k a0).bind fun bt112 => ((runes_Broken.f a0).bind fun bt114 => ((cognateref01_Broken.f k a0).bind fun bt116 => ((runes_Part.f a0 a1 a2).bind fun bt118 => ((cognateref01_Part.f a0 a1 a2).bind fun bt120 => ((runes_Back.f a0).bind fun bt122 => ((cognateref01_Back.f k a0).bind fun bt124 => (if bt102.2 = bt106.2 then (if bt110.2 = bt112.2 then (if bt114.2 = bt116.2 then (if bt118.2 = bt120.2 then (if bt122.2 = bt124.2 then (if bt110.1 = bt112.1 then (if bt114.1 = bt116.1 then (if bt118.1.toList = bt120.1.toList then (if bt122.1.toList = bt124.1.toList then ((cognateref01_Same.f k bt102.1 bt106.1).bind fun t126 => (cognatelaw01_RunesTexts.j0 k a0 bt102.1 bt106.1 bt106.2 (!t126))) else (cognatelaw01_RunesTexts.j0 k a0 bt102.1 bt106.1 bt106.2 true)) else (cognatelaw01_RunesTexts.j0 k a0 bt102.1 bt106.1 bt106.2 true)) else (cognatelaw01_RunesTexts.j0 k a0 bt102.1 bt106.1 bt106.2 true)) else (cognatelaw01_RunesTexts.j0 k a0 bt102.1 bt106.1 bt106.2 true)) else (cognatelaw01_RunesTexts.j0 k a0 bt102.1 bt106.1 bt106.2 true)) else (cognatelaw01_RunesTexts.j0 k a0 bt102.1 bt106.1 bt106.2 true)) else (cognatelaw01_RunesTexts.j0 k a0 bt102.1 bt106.1 bt106.2 true)) else (cognatelaw01_RunesTexts.j0 k a0 bt102.1 bt106.1 bt106.2 true)) else (cognatelaw01_RunesTexts.j0 k a0 bt102.1 bt106.1 bt106.2 true)))))))))))))
theorem cognatelaw01_RunesTexts.mono_l : ∀ k, (∀ y0 y1 y2 y3 y4, LeO (cognatelaw01_RunesTexts.j0 k y0 y1 y2 y3 y4) (cognatelaw01_RunesTexts.j0 (k + 1) y0 y1 y2 y3 y4)) ∧ (∀ y0 y1 y2 y3 y4, LeO (cognatelaw01_RunesTexts.l0 k y0 y1 y2 y3 y4) (cognatelaw01_RunesTexts.l0 (k + 1) y0 y1 y2 y3 y4))
  | 0 => ⟨fun _ _ _ _ _ r h => by simp [cognatelaw01_RunesTexts.j0] at h, fun _ _ _ _ _ r h => by simp [cognatelaw01_RunesTexts.l0] at h⟩
  | k + 1 => by
    obtain ⟨ih0, ih1⟩ := cognatelaw01_RunesTexts.mono_l k
    refine ⟨?_, ?_⟩
    · intro y0 y1 y2 y3 y4
      unfold cognatelaw01_RunesTexts.j0
      repeat' first
      | (with_reducible exact ih0 _ _ _ _ _)
      | (with_reducible exact ih1 _ _ _ _ _)
      | (with_reducible exact cognateref01_Back.mono _ _)
      | (with_reducible exact cognateref01_Broken.mono _ _)
      | (with_reducible exact cognateref01_Len.mono _ _)
      | (with_reducible exact cognateref01_Pieces.mono _ _)
      | (with_reducible exact cognateref01_Same.mono _ _ _)
      | (with_reducible exact LeO.refl _)
      | (with_reducible exact LeO.none _)
      | (with_reducible refine LeO.ite ?_ ?_)
      | (with_reducible refine LeO.bind ?_ (fun _ => ?_))
      | exact ih0 _ _ _ _ _
      | exact ih1 _ _ _ _ _
      | exact cognateref01_Back.mono _ _
      | exact cognateref01_Broken.mono _ _
      | exact cognateref01_Len.mono _ _
      | exact cognateref01_Pieces.mono _ _
      | exact cognateref01_Same.mono _ _ _
      | exact LeO.none _
      | refine LeO.ite ?_ ?_
      | refine LeO.bind ?_ (fun _ => ?_)
    · intro y0 y1 y2 y3 y4
      unfold cognatelaw01_RunesTexts.l0
      repeat' first
      | (with_reducible exact ih0 _ _ _ _ _)
      | (with_reducible exact ih1 _ _ _ _ _)
      | (with_reducible exact cognateref01_Back.mono _ _)
      | (with_reducible exact cognateref01_Broken.mono _ _)
      | (with_reducible exact cognateref01_Len.mono _ _)
      | (with_reducible exact cognateref01_Pieces.mono _ _)
      | (with_reducible exact cognateref01_Same.mono _ _ _)
      | (with_reducible exact LeO.refl _)
      | (with_reducible exact LeO.none _)
      | (with_reducible refine LeO.ite ?_ ?_)
      | (with_reducible refine LeO.bind ?_ (fun _ => ?_))
      | exact ih0 _ _ _ _ _
      | exact ih1 _ _ _ _ _
      | exact cognateref01_Back.mono _ _
      | exact cognateref01_Broken.mono _ _
      | exact cognateref01_Len.mono _ _
      | exact cognateref01_Pieces.mono _ _
      | exact cognateref01_Same.mono _ _ _
      | exact LeO.none _
      | refine LeO.ite ?_ ?_
      | refine LeO.bind ?_ (fun _ => ?_)
theorem cognatelaw01_RunesTexts.mono : ∀ a0 a1 a2 k, LeO (cognatelaw01_RunesTexts.f k a0 a1 a2) (cognatelaw01_RunesTexts.f (k + 1) a0 a1 a2) := by
  intro a0 a1 a2 k
  obtain ⟨ih0, ih1⟩ := cognatelaw01_RunesTexts.mono_l k
  unfold cognatelaw01_RunesTexts.f
  repeat' first
      | (with_reducible exact ih0 _ _ _ _ _)
      | (with_reducible exact ih1 _ _ _ _ _)
      | (with_reducible exact cognateref01_Back.mono _ _)
      | (with_reducible exact cognateref01_Broken.mono _ _)
      | (with_reducible exact cognateref01_Len.mono _ _)
      | (with_reducible exact cognateref01_Pieces.mono _ _)
      | (with_reducible exact cognateref01_Same.mono _ _ _)
      | (with_reducible exact LeO.refl _)
      | (with_reducible exact LeO.none _)
      | (with_reducible refine LeO.ite ?_ ?_)
      | (with_reducible refine LeO.bind ?_ (fun _ => ?_))
      | exact ih0 _ _ _ _ _
      | exact ih1 _ _ _ _ _
      | exact cognateref01_Back.mono _ _
      | exact cognateref01_Broken.mono _ _
      | exact cognateref01_Len.mono _ _
      | exact cognateref01_Pieces.mono _ _
      | exact cognateref01_Same.mono _ _ _
      | exact LeO.none _
      | refine LeO.ite ?_ ?_
      | refine LeO.bind ?_ (fun _ => ?_)
set_option maxHeartbeats 8000000 in
set_option maxRecDepth 100000 in
theorem cognatelaw01_RunesTexts.calls (k : Nat) (a0 : ByteArray) (a1 : Int) (a2 : Int) (r : Bool) (w : World) (hTU : TabU w) (h : cognatelaw01_RunesTexts.f k a0 a1 a2 = some r) :
    Calls Tryd.prog 4 #[.string a0, .int .i64 a1, .int .i64 a2] w fun e w' => e = .returned (.bool r) ∧ Below w.heap.size w w' := by
  have hu35 := Tryd.underlying35
  have HB := Aside0.mk (Below.refl w.heap.size w)
  have H : ((cognatelaw01_long.f a0).bind fun t101 => (if t101 = true then (some true) else ((runes_Pieces.f a0).bind fun bt102 => ((cognateref01_Pieces.f k a0).bind fun bt106 => ((runes_Len.f a0).bind fun bt110 => ((cognateref01_Len.f k a0).bind fun bt112 => ((runes_Broken.f a0).bind fun bt114 => ((cognateref01_Broken.f k a0).bind fun bt116 => ((runes_Part.f a0 a1 a2).bind fun bt118 => ((cognateref01_Part.f a0 a1 a2).bind fun bt120 => ((runes_Back.f a0).bind fun bt122 => ((cognateref01_Back.f k a0).bind fun bt124 => (if bt102.2 = bt106.2 then (if bt110.2 = bt112.2 then (if bt114.2 = bt116.2 then (if bt118.2 = bt120.2 then (if bt122.2 = bt124.2 then (if bt110.1 = bt112.1 then (if bt114.1 = bt116.1 then (if bt118.1.toList = bt120.1.toList then (if bt122.1.toList = bt124.1.toList then ((cognateref01_Same.f k bt102.1 bt106.1).bind fun t126 => (cognatelaw01_RunesTexts.j0 k a0 bt102.1 bt106.1 bt106.2 (!t126))) else (cognatelaw01_RunesTexts.j0 k a0 bt102.1 bt106.1 bt106.2 true)) else (cognatelaw01_RunesTexts.j0 k a0 bt102.1 bt106.1 bt106.2 true)) else (cognatelaw01_RunesTexts.j0 k a0 bt102.1 bt106.1 bt106.2 true)) else (cognatelaw01_RunesTexts.j0 k a0 bt102.1 bt106.1 bt106.2 true)) else (cognatelaw01_RunesTexts.j0 k a0 bt102.1 bt106.1 bt106.2 true)) else (cognatelaw01_RunesTexts.j0 k a0 bt102.1 bt106.1 bt106.2 true)) else (cognatelaw01_RunesTexts.j0 k a0 bt102.1 bt106.1 bt106.2 true)) else (cognatelaw01_RunesTexts.j0 k a0 bt102.1 bt106.1 bt106.2 true)) else (cognatelaw01_RunesTexts.j0 k a0 bt102.1 bt106.1 bt106.2 true)))))))))))))) = some r := h
  clear h
  have HTU := Aside0.mk hTU
  clear hTU
  replace H := Option.bind_eq_some_iff.mp H
  obtain ⟨t101, A40, H⟩ := H
  replace H : (if t101 = true then (some true) else ((runes_Pieces.f a0).bind fun bt102 => ((cognateref01_Pieces.f k a0).bind fun bt106 => ((runes_Len.f a0).bind fun bt110 => ((cognateref01_Len.f k a0).bind fun bt112 => ((runes_Broken.f a0).bind fun bt114 => ((cognateref01_Broken.f k a0).bind fun bt116 => ((runes_Part.f a0 a1 a2).bind fun bt118 => ((cognateref01_Part.f a0 a1 a2).bind fun bt120 => ((runes_Back.f a0).bind fun bt122 => ((cognateref01_Back.f k a0).bind fun bt124 => (if bt102.2 = bt106.2 then (if bt110.2 = bt112.2 then (if bt114.2 = bt116.2 then (if bt118.2 = bt120.2 then (if bt122.2 = bt124.2 then (if bt110.1 = bt112.1 then (if bt114.1 = bt116.1 then (if bt118.1.toList = bt120.1.toList then (if bt122.1.toList = bt124.1.toList then ((cognateref01_Same.f k bt102.1 bt106.1).bind fun t126 => (cognatelaw01_RunesTexts.j0 k a0 bt102.1 bt106.1 bt106.2 (!t126))) else (cognatelaw01_RunesTexts.j0 k a0 bt102.1 bt106.1 bt106.2 true)) else (cognatelaw01_RunesTexts.j0 k a0 bt102.1 bt106.1 bt106.2 true)) else (cognatelaw01_RunesTexts.j0 k a0 bt102.1 bt106.1 bt106.2 true)) else (cognatelaw01_RunesTexts.j0 k a0 bt102.1 bt106.1 bt106.2 true)) else (cognatelaw01_RunesTexts.j0 k a0 bt102.1 bt106.1 bt106.2 true)) else (cognatelaw01_RunesTexts.j0 k a0 bt102.1 bt106.1 bt106.2 true)) else (cognatelaw01_RunesTexts.j0 k a0 bt102.1 bt106.1 bt106.2 true)) else (cognatelaw01_RunesTexts.j0 k a0 bt102.1 bt106.1 bt106.2 true)) else (cognatelaw01_RunesTexts.j0 k a0 bt102.1 bt106.1 bt106.2 true))))))))))))) = some r := H
  have A4 := Aside0.mk A40
  clear A40
  by_cases c5 : t101 = true
  · subst c5
    have H1 : (some true) = some r := by rw [if_pos rfl] at H; exact H
    clear H
    have H := H1
    clear H1
    obtain rfl := Option.some.inj H
    go_enter Tryd.func4, Tryd.ntmps4
    go_wp2_with (first | ((with_reducible refine gate_callee (f := 12) rfl ?_); refine goesL_ (some 31) rfl rfl Tryd.func12 (by kernel_rfl) rfl #[.string a0] rfl (by (try simp only [List.map_toArray, List.map_cons, List.map_nil]); first | done | rfl | (simp only [List.length_drop, List.length_take]; rfl)) ?_; (with_reducible refine (cognatelaw01_long.calls a0 true _ A4.out).mono ?_); rintro e w' ⟨rfl, ⟨nd, rfl⟩⟩; refine ⟨_, rfl, ?_⟩))
    go_ret
    exact ⟨by first | rfl | (simp [errW_none, errW_some] <;> rfl) | (simp [*, errW_none, errW_some] <;> rfl), by repeat (first | (with_reducible first | exact HB.out | apply below_alloc | apply pw_below_drewN | apply below_drew1) | exact HB.out)⟩
  · replace c5 := Bool.eq_false_iff.mpr c5
    subst c5
    have H1 : ((runes_Pieces.f a0).bind fun bt102 => ((cognateref01_Pieces.f k a0).bind fun bt106 => ((runes_Len.f a0).bind fun bt110 => ((cognateref01_Len.f k a0).bind fun bt112 => ((runes_Broken.f a0).bind fun bt114 => ((cognateref01_Broken.f k a0).bind fun bt116 => ((runes_Part.f a0 a1 a2).bind fun bt118 => ((cognateref01_Part.f a0 a1 a2).bind fun bt120 => ((runes_Back.f a0).bind fun bt122 => ((cognateref01_Back.f k a0).bind fun bt124 => (if bt102.2 = bt106.2 then (if bt110.2 = bt112.2 then (if bt114.2 = bt116.2 then (if bt118.2 = bt120.2 then (if bt122.2 = bt124.2 then (if bt110.1 = bt112.1 then (if bt114.1 = bt116.1 then (if bt118.1.toList = bt120.1.toList then (if bt122.1.toList = bt124.1.toList then ((cognateref01_Same.f k bt102.1 bt106.1).bind fun t126 => (cognatelaw01_RunesTexts.j0 k a0 bt102.1 bt106.1 bt106.2 (!t126))) else (cognatelaw01_RunesTexts.j0 k a0 bt102.1 bt106.1 bt106.2 true)) else (cognatelaw01_RunesTexts.j0 k a0 bt102.1 bt106.1 bt106.2 true)) else (cognatelaw01_RunesTexts.j0 k a0 bt102.1 bt106.1 bt106.2 true)) else (cognatelaw01_RunesTexts.j0 k a0 bt102.1 bt106.1 bt106.2 true)) else (cognatelaw01_RunesTexts.j0 k a0 bt102.1 bt106.1 bt106.2 true)) else (cognatelaw01_RunesTexts.j0 k a0 bt102.1 bt106.1 bt106.2 true)) else (cognatelaw01_RunesTexts.j0 k a0 bt102.1 bt106.1 bt106.2 true)) else (cognatelaw01_RunesTexts.j0 k a0 bt102.1 bt106.1 bt106.2 true)) else (cognatelaw01_RunesTexts.j0 k a0 bt102.1 bt106.1 bt106.2 true)))))))))))) = some r := by rw [if_neg (show ¬ (false = true) by decide)] at H; exact H
    clear H
    have H := H1
    clear H1
    replace H := Option.bind_eq_some_iff.mp H
    obtain ⟨⟨t102, t103⟩, A60, H⟩ := H
    replace H : ((cognateref01_Pieces.f k a0).bind fun bt106 => ((runes_Len.f a0).bind fun bt110 => ((cognateref01_Len.f k a0).bind fun bt112 => ((runes_Broken.f a0).bind fun bt114 => ((cognateref01_Broken.f k a0).bind fun bt116 => ((runes_Part.f a0 a1 a2).bind fun bt118 => ((cognateref01_Part.f a0 a1 a2).bind fun bt120 => ((runes_Back.f a0).bind fun bt122 => ((cognateref01_Back.f k a0).bind fun bt124 => (if t103 = bt106.2 then (if bt110.2 = bt112.2 then (if bt114.2 = bt116.2 then (if bt118.2 = bt120.2 then (if bt122.2 = bt124.2 then (if bt110.1 = bt112.1 then (if bt114.1 = bt116.1 then (if bt118.1.toList = bt120.1.toList then (if bt122.1.toList = bt124.1.toList then ((cognateref01_Same.f k t102 bt106.1).bind fun t126 => (cognatelaw01_RunesTexts.j0 k a0 t102 bt106.1 bt106.2 (!t126))) else (cognatelaw01_RunesTexts.j0 k a0 t102 bt106.1 bt106.2 true)) else (cognatelaw01_RunesTexts.j0 k a0 t102 bt106.1 bt106.2 true)) else (cognatelaw01_RunesTexts.j0 k a0 t102 bt106.1 bt106.2 true)) else (cognatelaw01_RunesTexts.j0 k a0 t102 bt106.1 bt106.2 true)) else (cognatelaw01_RunesTexts.j0 k a0 t102 bt106.1 bt106.2 true)) else (cognatelaw01_RunesTexts.j0 k a0 t102 bt106.1 bt106.2 true)) else (cognatelaw01_RunesTexts.j0 k a0 t102 bt106.1 bt106.2 true)) else (cognatelaw01_RunesTexts.j0 k a0 t102 bt106.1 bt106.2 true)) else (cognatelaw01_RunesTexts.j0 k a0 t102 bt106.1 bt106.2 true))))))))))) = some r := H
    have A6 := Aside0.mk A60
    clear A60
    replace H := Option.bind_eq_some_iff.mp H
    obtain ⟨⟨t106, t107⟩, A70, H⟩ := H
    replace H : ((runes_Len.f a0).bind fun bt110 => ((cognateref01_Len.f k a0).bind fun bt112 => ((runes_Broken.f a0).bind fun bt114 => ((cognateref01_Broken.f k a0).bind fun bt116 => ((runes_Part.f a0 a1 a2).bind fun bt118 => ((cognateref01_Part.f a0 a1 a2).bind fun bt120 => ((runes_Back.f a0).bind fun bt122 => ((cognateref01_Back.f k a0).bind fun bt124 => (if t103 = t107 then (if bt110.2 = bt112.2 then (if bt114.2 = bt116.2 then (if bt118.2 = bt120.2 then (if bt122.2 = bt124.2 then (if bt110.1 = bt112.1 then (if bt114.1 = bt116.1 then (if bt118.1.toList = bt120.1.toList then (if bt122.1.toList = bt124.1.toList then ((cognateref01_Same.f k t102 t106).bind fun t126 => (cognatelaw01_RunesTexts.j0 k a0 t102 t106 t107 (!t126))) else (cognatelaw01_RunesTexts.j0 k a0 t102 t106 t107 true)) else (cognatelaw01_RunesTexts.j0 k a0 t102 t106 t107 true)) else (cognatelaw01_RunesTexts.j0 k a0 t102 t106 t107 true)) else (cognatelaw01_RunesTexts.j0 k a0 t102 t106 t107 true)) else (cognatelaw01_RunesTexts.j0 k a0 t102 t106 t107 true)) else (cognatelaw01_RunesTexts.j0 k a0 t102 t106 t107 true)) else (cognatelaw01_RunesTexts.j0 k a0 t102 t106 t107 true)) else (cognatelaw01_RunesTexts.j0 k a0 t102 t106 t107 true)) else (cognatelaw01_RunesTexts.j0 k a0 t102 t106 t107 true)))))))))) = some r := H
    have A7 := Aside0.mk A70
    clear A70
    replace H := Option.bind_eq_some_iff.mp H
    obtain ⟨⟨t110, t111⟩, A80, H⟩ := H
    replace H : ((cognateref01_Len.f k a0).bind fun bt112 => ((runes_Broken.f a0).bind fun bt114 => ((cognateref01_Broken.f k a0).bind fun bt116 => ((runes_Part.f a0 a1 a2).bind fun bt118 => ((cognateref01_Part.f a0 a1 a2).bind fun bt120 => ((runes_Back.f a0).bind fun bt122 => ((cognateref01_Back.f k a0).bind fun bt124 => (if t103 = t107 then (if t111 = bt112.2 then (if bt114.2 = bt116.2 then (if bt118.2 = bt120.2 then (if bt122.2 = bt124.2 then (if t110 = bt112.1 then (if bt114.1 = bt116.1 then (if bt118.1.toList = bt120.1.toList then (if bt122.1.toList = bt124.1.toList then ((cognateref01_Same.f k t102 t106).bind fun t126 => (cognatelaw01_RunesTexts.j0 k a0 t102 t106 t107 (!t126))) else (cognatelaw01_RunesTexts.j0 k a0 t102 t106 t107 true)) else (cognatelaw01_RunesTexts.j0 k a0 t102 t106 t107 true)) else (cognatelaw01_RunesTexts.j0 k a0 t102 t106 t107 true)) else (cognatelaw01_RunesTexts.j0 k a0 t102 t106 t107 true)) else (cognatelaw01_RunesTexts.j0 k a0 t102 t106 t107 true)) else (cognatelaw01_RunesTexts.j0 k a0 t102 t106 t107 true)) else (cognatelaw01_RunesTexts.j0 k a0 t102 t106 t107 true)) else (cognatelaw01_RunesTexts.j0 k a0 t102 t106 t107 true)) else (cognatelaw01_RunesTexts.j0 k a0 t102 t106 t107 true))))))))) = some r := H
    have A8 := Aside0.mk A80
    clear A80
    replace H := Option.bind_eq_some_iff.mp H
    obtain ⟨⟨t112, t113⟩, A90, H⟩ := H
    replace H : ((runes_Broken.f a0).bind fun bt114 => ((cognateref01_Broken.f k a0).bind fun bt116 => ((runes_Part.f a0 a1 a2).bind fun bt118 => ((cognateref01_Part.f a0 a1 a2).bind fun bt120 => ((runes_Back.f a0).bind fun bt122 => ((cognateref01_Back.f k a0).bind fun bt124 => (if t103 = t107 then (if t111 = t113 then (if bt114.2 = bt116.2 then (if bt118.2 = bt120.2 then (if bt122.2 = bt124.2 then (if t110 = t112 then (if bt114.1 = bt116.1 then (if bt118.1.toList = bt120.1.toList then (if bt122.1.toList = bt124.1.toList then ((cognateref01_Same.f k t102 t106).bind fun t126 => (cognatelaw01_RunesTexts.j0 k a0 t102 t106 t107 (!t126))) else (cognatelaw01_RunesTexts.j0 k a0 t102 t106 t107 true)) else (cognatelaw01_RunesTexts.j0 k a0 t102 t106 t107 true)) else (cognatelaw01_RunesTexts.j0 k a0 t102 t106 t107 true)) else (cognatelaw01_RunesTexts.j0 k a0 t102 t106 t107 true)) else (cognatelaw01_RunesTexts.j0 k a0 t102 t106 t107 true)) else (cognatelaw01_RunesTexts.j0 k a0 t102 t106 t107 true)) else (cognatelaw01_RunesTexts.j0 k a0 t102 t106 t107 true)) else (cognatelaw01_RunesTexts.j0 k a0 t102 t106 t107 true)) else (cognatelaw01_RunesTexts.j0 k a0 t102 t106 t107 true)))))))) = some r := H
    have A9 := Aside0.mk A90
    clear A90
    replace H := Option.bind_eq_some_iff.mp H
    obtain ⟨⟨t114, t115⟩, A100, H⟩ := H
    replace H : ((cognateref01_Broken.f k a0).bind fun bt116 => ((runes_Part.f a0 a1 a2).bind fun bt118 => ((cognateref01_Part.f a0 a1 a2).bind fun bt120 => ((runes_Back.f a0).bind fun bt122 => ((cognateref01_Back.f k a0).bind fun bt124 => (if t103 = t107 then (if t111 = t113 then (if t115 = bt116.2 then (if bt118.2 = bt120.2 then (if bt122.2 = bt124.2 then (if t110 = t112 then (if t114 = bt116.1 then (if bt118.1.toList = bt120.1.toList then (if bt122.1.toList = bt124.1.toList then ((cognateref01_Same.f k t102 t106).bind fun t126 => (cognatelaw01_RunesTexts.j0 k a0 t102 t106 t107 (!t126))) else (cognatelaw01_RunesTexts.j0 k a0 t102 t106 t107 true)) else (cognatelaw01_RunesTexts.j0 k a0 t102 t106 t107 true)) else (cognatelaw01_RunesTexts.j0 k a0 t102 t106 t107 true)) else (cognatelaw01_RunesTexts.j0 k a0 t102 t106 t107 true)) else (cognatelaw01_RunesTexts.j0 k a0 t102 t106 t107 true)) else (cognatelaw01_RunesTexts.j0 k a0 t102 t106 t107 true)) else (cognatelaw01_RunesTexts.j0 k a0 t102 t106 t107 true)) else (cognatelaw01_RunesTexts.j0 k a0 t102 t106 t107 true)) else (cognatelaw01_RunesTexts.j0 k a0 t102 t106 t107 true))))))) = some r := H
    have A10 := Aside0.mk A100
    clear A100
    replace H := Option.bind_eq_some_iff.mp H
    obtain ⟨⟨t116, t117⟩, A110, H⟩ := H
    replace H : ((runes_Part.f a0 a1 a2).bind fun bt118 => ((cognateref01_Part.f a0 a1 a2).bind fun bt120 => ((runes_Back.f a0).bind fun bt122 => ((cognateref01_Back.f k a0).bind fun bt124 => (if t103 = t107 then (if t111 = t113 then (if t115 = t117 then (if bt118.2 = bt120.2 then (if bt122.2 = bt124.2 then (if t110 = t112 then (if t114 = t116 then (if bt118.1.toList = bt120.1.toList then (if bt122.1.toList = bt124.1.toList then ((cognateref01_Same.f k t102 t106).bind fun t126 => (cognatelaw01_RunesTexts.j0 k a0 t102 t106 t107 (!t126))) else (cognatelaw01_RunesTexts.j0 k a0 t102 t106 t107 true)) else (cognatelaw01_RunesTexts.j0 k a0 t102 t106 t107 true)) else (cognatelaw01_RunesTexts.j0 k a0 t102 t106 t107 true)) else (cognatelaw01_RunesTexts.j0 k a0 t102 t106 t107 true)) else (cognatelaw01_RunesTexts.j0 k a0 t102 t106 t107 true)) else (cognatelaw01_RunesTexts.j0 k a0 t102 t106 t107 true)) else (cognatelaw01_RunesTexts.j0 k a0 t102 t106 t107 true)) else (cognatelaw01_RunesTexts.j0 k a0 t102 t106 t107 true)) else (cognatelaw01_RunesTexts.j0 k a0 t102 t106 t107 true)))))) = some r := H
    have A11 := Aside0.mk A110
    clear A110
    replace H := Option.bind_eq_some_iff.mp H
    obtain ⟨⟨t118, t119⟩, A120, H⟩ := H
    replace H : ((cognateref01_Part.f a0 a1 a2).bind fun bt120 => ((runes_Back.f a0).bind fun bt122 => ((cognateref01_Back.f k a0).bind fun bt124 => (if t103 = t107 then (if t111 = t113 then (if t115 = t117 then (if t119 = bt120.2 then (if bt122.2 = bt124.2 then (if t110 = t112 then (if t114 = t116 then (if t118.toList = bt120.1.toList then (if bt122.1.toList = bt124.1.toList then ((cognateref01_Same.f k t102 t106).bind fun t126 => (cognatelaw01_RunesTexts.j0 k a0 t102 t106 t107 (!t126))) else (cognatelaw01_RunesTexts.j0 k a0 t102 t106 t107 true)) else (cognatelaw01_RunesTexts.j0 k a0 t102 t106 t107 true)) else (cognatelaw01_RunesTexts.j0 k a0 t102 t106 t107 true)) else (cognatelaw01_RunesTexts.j0 k a0 t102 t106 t107 true)) else (cognatelaw01_RunesTexts.j0 k a0 t102 t106 t107 true)) else (cognatelaw01_RunesTexts.j0 k a0 t102 t106 t107 true)) else (cognatelaw01_RunesTexts.j0 k a0 t102 t106 t107 true)) else (cognatelaw01_RunesTexts.j0 k a0 t102 t106 t107 true)) else (cognatelaw01_RunesTexts.j0 k a0 t102 t106 t107 true))))) = some r := H
    have A12 := Aside0.mk A120
    clear A120
    replace H := Option.bind_eq_some_iff.mp H
    obtain ⟨⟨t120, t121⟩, A130, H⟩ := H
    replace H : ((runes_Back.f a0).bind fun bt122 => ((cognateref01_Back.f k a0).bind fun bt124 => (if t103 = t107 then (if t111 = t113 then (if t115 = t117 then (if t119 = t121 then (if bt122.2 = bt124.2 then (if t110 = t112 then (if t114 = t116 then (if t118.toList = t120.toList then (if bt122.1.toList = bt124.1.toList then ((cognateref01_Same.f k t102 t106).bind fun t126 => (cognatelaw01_RunesTexts.j0 k a0 t102 t106 t107 (!t126))) else (cognatelaw01_RunesTexts.j0 k a0 t102 t106 t107 true)) else (cognatelaw01_RunesTexts.j0 k a0 t102 t106 t107 true)) else (cognatelaw01_RunesTexts.j0 k a0 t102 t106 t107 true)) else (cognatelaw01_RunesTexts.j0 k a0 t102 t106 t107 true)) else (cognatelaw01_RunesTexts.j0 k a0 t102 t106 t107 true)) else (cognatelaw01_RunesTexts.j0 k a0 t102 t106 t107 true)) else (cognatelaw01_RunesTexts.j0 k a0 t102 t106 t107 true)) else (cognatelaw01_RunesTexts.j0 k a0 t102 t106 t107 true)) else (cognatelaw01_RunesTexts.j0 k a0 t102 t106 t107 true)))) = some r := H
    have A13 := Aside0.mk A130
    clear A130
    replace H := Option.bind_eq_some_iff.mp H
    obtain ⟨⟨t122, t123⟩, A140, H⟩ := H
    replace H : ((cognateref01_Back.f k a0).bind fun bt124 => (if t103 = t107 then (if t111 = t113 then (if t115 = t117 then (if t119 = t121 then (if t123 = bt124.2 then (if t110 = t112 then (if t114 = t116 then (if t118.toList = t120.toList then (if t122.toList = bt124.1.toList then ((cognateref01_Same.f k t102 t106).bind fun t126 => (cognatelaw01_RunesTexts.j0 k a0 t102 t106 t107 (!t126))) else (cognatelaw01_RunesTexts.j0 k a0 t102 t106 t107 true)) else (cognatelaw01_RunesTexts.j0 k a0 t102 t106 t107 true)) else (cognatelaw01_RunesTexts.j0 k a0 t102 t106 t107 true)) else (cognatelaw01_RunesTexts.j0 k a0 t102 t106 t107 true)) else (cognatelaw01_RunesTexts.j0 k a0 t102 t106 t107 true)) else (cognatelaw01_RunesTexts.j0 k a0 t102 t106 t107 true)) else (cognatelaw01_RunesTexts.j0 k a0 t102 t106 t107 true)) else (cognatelaw01_RunesTexts.j0 k a0 t102 t106 t107 true)) else (cognatelaw01_RunesTexts.j0 k a0 t102 t106 t107 true))) = some r := H
    have A14 := Aside0.mk A140
    clear A140
    replace H := Option.bind_eq_some_iff.mp H
    obtain ⟨⟨t124, t125⟩, A150, H⟩ := H
    replace H : (if t103 = t107 then (if t111 = t113 then (if t115 = t117 then (if t119 = t121 then (if t123 = t125 then (if t110 = t112 then (if t114 = t116 then (if t118.toList = t120.toList then (if t122.toList = t124.toList then ((cognateref01_Same.f k t102 t106).bind fun t126 => (cognatelaw01_RunesTexts.j0 k a0 t102 t106 t107 (!t126))) else (cognatelaw01_RunesTexts.j0 k a0 t102 t106 t107 true)) else (cognatelaw01_RunesTexts.j0 k a0 t102 t106 t107 true)) else (cognatelaw01_RunesTexts.j0 k a0 t102 t106 t107 true)) else (cognatelaw01_RunesTexts.j0 k a0 t102 t106 t107 true)) else (cognatelaw01_RunesTexts.j0 k a0 t102 t106 t107 true)) else (cognatelaw01_RunesTexts.j0 k a0 t102 t106 t107 true)) else (cognatelaw01_RunesTexts.j0 k a0 t102 t106 t107 true)) else (cognatelaw01_RunesTexts.j0 k a0 t102 t106 t107 true)) else (cognatelaw01_RunesTexts.j0 k a0 t102 t106 t107 true)) = some r := H
    have A15 := Aside0.mk A150
    clear A150
    have HC16 := Aside0.mk H
    clear H
    go_enter Tryd.func4, Tryd.ntmps4
    go_upto_region 13 with (first | ((with_reducible refine gate_callee (f := 12) rfl ?_); refine goesL_ (some 31) rfl rfl Tryd.func12 (by kernel_rfl) rfl #[.string a0] rfl (by (try simp only [List.map_toArray, List.map_cons, List.map_nil]); first | done | rfl | (simp only [List.length_drop, List.length_take]; rfl)) ?_; (with_reducible refine (cognatelaw01_long.calls a0 false _ A4.out).mono ?_); rintro e w' ⟨rfl, ⟨nd, rfl⟩⟩; refine ⟨_, rfl, ?_⟩) | ((with_reducible refine gate_callee (f := 13) rfl ?_); refine goesL_ (some 34) rfl rfl Tryd.func13 (by kernel_rfl) rfl #[.string a0] rfl (by (try simp only [List.map_toArray, List.map_cons, List.map_nil]); first | done | rfl | (simp only [List.length_drop, List.length_take]; rfl)) ?_; (with_reducible refine (runes_Pieces.calls a0 t102 t103 _ ?side1 A6.out).mono ?_); (case side1 => exact TabU.below HTU.out (by repeat (first | (with_reducible first | exact HB.out | apply below_alloc | apply pw_below_drewN | apply below_drew1) | exact HB.out))); rintro e w17 ⟨v104, rfl, ho0, hb⟩; refine ⟨_, rfl, ?_⟩; have n0_ := Aside0.mk (Kd.R_lower ho0 (below_size (by repeat (first | (with_reducible first | exact HB.out | apply below_alloc | apply pw_below_drewN | apply below_drew1) | exact HB.out)))); have n1_ := Aside0.mk (below_step (by repeat (first | (with_reducible first | exact HB.out | apply below_alloc | apply pw_below_drewN | apply below_drew1) | exact HB.out)) hb); clear HB; have HO105 := n0_; have HB := n1_; clear n0_ n1_; (try clear hb); (try clear hb2); (try clear hk); (try clear hi); (try clear ho0)) | ((with_reducible refine gate_callee (f := 14) rfl ?_); refine goesL_ (some 39) rfl rfl Tryd.func14 (by kernel_rfl) rfl #[.string a0] rfl (by (try simp only [List.map_toArray, List.map_cons, List.map_nil]); first | done | rfl | (simp only [List.length_drop, List.length_take]; rfl)) ?_; (with_reducible refine (cognateref01_Pieces.calls k a0 t106 t107 _ A7.out).mono ?_); rintro e w18 ⟨v108, rfl, ho0, hb⟩; refine ⟨_, rfl, ?_⟩; have n0_ := Aside0.mk (Kd.R_elder' (by (with_reducible repeat (first | apply Kd.R_alloc | apply Kd.R_drewN | apply Kd.R_drew)); exact HO105.out) (Kd.R_base ho0) hb); have n1_ := Aside0.mk (Kd.R_lower (Kd.R_new' ho0 (Kd.R_lt (by (with_reducible repeat (first | apply Kd.R_alloc | apply Kd.R_drewN | apply Kd.R_drew)); exact HO105.out))) (below_size (by repeat (first | (with_reducible first | exact HB.out | apply below_alloc | apply pw_below_drewN | apply below_drew1) | exact HB.out)))); have n2_ := Aside0.mk (below_step (by repeat (first | (with_reducible first | exact HB.out | apply below_alloc | apply pw_below_drewN | apply below_drew1) | exact HB.out)) hb); clear HO105; clear HB; have HO105 := n0_; have HO109 := n1_; have HB := n2_; clear n0_ n1_ n2_; (try clear hb); (try clear hb2); (try clear hk); (try clear hi); (try clear ho0)) | ((with_reducible refine gate_callee (f := 15) rfl ?_); refine goesL_ (some 44) rfl rfl Tryd.func15 (by kernel_rfl) rfl #[.string a0] rfl (by (try simp only [List.map_toArray, List.map_cons, List.map_nil]); first | done | rfl | (simp only [List.length_drop, List.length_take]; rfl)) ?_; (with_reducible refine (runes_Len.calls a0 t110 t111 _ A8.out).mono ?_); rintro e w19 ⟨rfl, hb⟩; refine ⟨_, rfl, ?_⟩; have n0_ := Aside0.mk (Kd.R_below (by (with_reducible repeat (first | apply Kd.R_alloc | apply Kd.R_drewN | apply Kd.R_drew)); exact HO105.out) hb); have n1_ := Aside0.mk (Kd.R_below (by (with_reducible repeat (first | apply Kd.R_alloc | apply Kd.R_drewN | apply Kd.R_drew)); exact HO109.out) hb); have n2_ := Aside0.mk (below_step (by repeat (first | (with_reducible first | exact HB.out | apply below_alloc | apply pw_below_drewN | apply below_drew1) | exact HB.out)) hb); clear HO105; clear HO109; clear HB; have HO105 := n0_; have HO109 := n1_; have HB := n2_; clear n0_ n1_ n2_; (try clear hb); (try clear hb2); (try clear hk); (try clear hi)) | ((with_reducible refine gate_callee (f := 16) rfl ?_); refine goesL_ (some 49) rfl rfl Tryd.func16 (by kernel_rfl) rfl #[.string a0] rfl (by (try simp only [List.map_toArray, List.map_cons, List.map_nil]); first | done | rfl | (simp only [List.length_drop, List.length_take]; rfl)) ?_; (with_reducible refine (cognateref01_Len.calls k a0 t112 t113 _ A9.out).mono ?_); rintro e w20 ⟨rfl, hb⟩; refine ⟨_, rfl, ?_⟩; have n0_ := Aside0.mk (Kd.R_below (by (with_reducible repeat (first | apply Kd.R_alloc | apply Kd.R_drewN | apply Kd.R_drew)); exact HO105.out) hb); have n1_ := Aside0.mk (Kd.R_below (by (with_reducible repeat (first | apply Kd.R_alloc | apply Kd.R_drewN | apply Kd.R_drew)); exact HO109.out) hb); have n2_ := Aside0.mk (below_step (by repeat (first | (with_reducible first | exact HB.out | apply below_alloc | apply pw_below_drewN | apply below_drew1) | exact HB.out)) hb); clear HO105; clear HO109; clear HB; have HO105 := n0_; have HO109 := n1_; have HB := n2_; clear n0_ n1_ n2_; (try clear hb); (try clear hb2); (try clear hk); (try clear hi)) | ((with_reducible refine gate_callee (f := 17) rfl ?_); refine goesL_ (some 54) rfl rfl Tryd.func17 (by kernel_rfl) rfl #[.string a0] rfl (by (try simp only [List.map_toArray, List.map_cons, List.map_nil]); first | done | rfl | (simp only [List.length_drop, List.length_take]; rfl)) ?_; (with_reducible refine (runes_Broken.calls a0 t114 t115 _ ?side1 A10.out).mono ?_); (case side1 => exact TabU.below HTU.out (by repeat (first | (with_reducible first | exact HB.out | apply below_alloc | apply pw_below_drewN | apply below_drew1) | exact HB.out))); rintro e w21 ⟨rfl, hb⟩; refine ⟨_, rfl, ?_⟩; have n0_ := Aside0.mk (Kd.R_below (by (with_reducible repeat (first | apply Kd.R_alloc | apply Kd.R_drewN | apply Kd.R_drew)); exact HO105.out) hb); have n1_ := Aside0.mk (Kd.R_below (by (with_reducible repeat (first | apply Kd.R_alloc | apply Kd.R_drewN | apply Kd.R_drew)); exact HO109.out) hb); have n2_ := Aside0.mk (below_step (by repeat (first | (with_reducible first | exact HB.out | apply below_alloc | apply pw_below_drewN | apply below_drew1) | exact HB.out)) hb); clear HO105; clear HO109; clear HB; have HO105 := n0_; have HO109 := n1_; have HB := n2_; clear n0_ n1_ n2_; (try clear hb); (try clear hb2); (try clear hk); (try clear hi)) | ((with_reducible refine gate_callee (f := 18) rfl ?_); refine goesL_ (some 59) rfl rfl Tryd.func18 (by kernel_rfl) rfl #[.string a0] rfl (by (try simp only [List.map_toArray, List.map_cons, List.map_nil]); first | done | rfl | (simp only [List.length_drop, List.length_take]; rfl)) ?_; (with_reducible refine (cognateref01_Broken.calls k a0 t116 t117 _ A11.out).mono ?_); rintro e w22 ⟨rfl, hb⟩; refine ⟨_, rfl, ?_⟩; have n0_ := Aside0.mk (Kd.R_below (by (with_reducible repeat (first | apply Kd.R_alloc | apply Kd.R_drewN | apply Kd.R_drew)); exact HO105.out) hb); have n1_ := Aside0.mk (Kd.R_below (by (with_reducible repeat (first | apply Kd.R_alloc | apply Kd.R_drewN | apply Kd.R_drew)); exact HO109.out) hb); have n2_ := Aside0.mk (below_step (by repeat (first | (with_reducible first | exact HB.out | apply below_alloc | apply pw_below_drewN | apply below_drew1) | exact HB.out)) hb); clear HO105; clear HO109; clear HB; have HO105 := n0_; have HO109 := n1_; have HB := n2_; clear n0_ n1_ n2_; (try clear hb); (try clear hb2); (try clear hk); (try clear hi)) | ((with_reducible refine gate_callee (f := 19) rfl ?_); refine goesL_ (some 66) rfl rfl Tryd.func19 (by kernel_rfl) rfl #[.string a0, .int .i64 a1, .int .i64 a2] rfl (by (try simp only [List.map_toArray, List.map_cons, List.map_nil]); first | done | rfl | (simp only [List.length_drop, List.length_take]; rfl)) ?_; (with_reducible refine (runes_Part.calls a0 a1 a2 t118 t119 _ ?side1 A12.out).mono ?_); (case side1 => exact TabU.below HTU.out (by repeat (first | (with_reducible first | exact HB.out | apply below_alloc | apply pw_below_drewN | apply below_drew1) | exact HB.out))); rintro e w23 ⟨rfl, hb⟩; refine ⟨_, rfl, ?_⟩; have n0_ := Aside0.mk (Kd.R_below (by (with_reducible repeat (first | apply Kd.R_alloc | apply Kd.R_drewN | apply Kd.R_drew)); exact HO105.out) hb); have n1_ := Aside0.mk (Kd.R_below (by (with_reducible repeat (first | apply Kd.R_alloc | apply Kd.R_drewN | apply Kd.R_drew)); exact HO109.out) hb); have n2_ := Aside0.mk (below_step (by repeat (first | (with_reducible first | exact HB.out | apply below_alloc | apply pw_below_drewN | apply below_drew1) | exact HB.out)) hb); clear HO105; clear HO109; clear HB; have HO105 := n0_; have HO109 := n1_; have HB := n2_; clear n0_ n1_ n2_; (try clear hb); (try clear hb2); (try clear hk); (try clear hi)) | ((with_reducible refine gate_callee (f := 20) rfl ?_); refine goesL_ (some 73) rfl rfl Tryd.func20 (by kernel_rfl) rfl #[.string a0, .int .i64 a1, .int .i64 a2] rfl (by (try simp only [List.map_toArray, List.map_cons, List.map_nil]); first | done | rfl | (simp only [List.length_drop, List.length_take]; rfl)) ?_; (with_reducible refine (cognateref01_Part.calls a0 a1 a2 t120 t121 _ A13.out).mono ?_); rintro e w24 ⟨rfl, hb⟩; refine ⟨_, rfl, ?_⟩; have n0_ := Aside0.mk (Kd.R_below (by (with_reducible repeat (first | apply Kd.R_alloc | apply Kd.R_drewN | apply Kd.R_drew)); exact HO105.out) hb); have n1_ := Aside0.mk (Kd.R_below (by (with_reducible repeat (first | apply Kd.R_alloc | apply Kd.R_drewN | apply Kd.R_drew)); exact HO109.out) hb); have n2_ := Aside0.mk (below_step (by repeat (first | (with_reducible first | exact HB.out | apply below_alloc | apply pw_below_drewN | apply below_drew1) | exact HB.out)) hb); clear HO105; clear HO109; clear HB; have HO105 := n0_; have HO109 := n1_; have HB := n2_; clear n0_ n1_ n2_; (try clear hb); (try clear hb2); (try clear hk); (try clear hi)) | ((with_reducible refine gate_callee (f := 21) rfl ?_); refine goesL_ (some 78) rfl rfl Tryd.func21 (by kernel_rfl) rfl #[.string a0] rfl (by (try simp only [List.map_toArray, List.map_cons, List.map_nil]); first | done | rfl | (simp only [List.length_drop, List.length_take]; rfl)) ?_; (with_reducible refine (runes_Back.calls a0 t122 t123 _ A14.out).mono ?_); rintro e w25 ⟨rfl, hb⟩; refine ⟨_, rfl, ?_⟩; have n0_ := Aside0.mk (Kd.R_below (by (with_reducible repeat (first | apply Kd.R_alloc | apply Kd.R_drewN | apply Kd.R_drew)); exact HO105.out) hb); have n1_ := Aside0.mk (Kd.R_below (by (with_reducible repeat (first | apply Kd.R_alloc | apply Kd.R_drewN | apply Kd.R_drew)); exact HO109.out) hb); have n2_ := Aside0.mk (below_step (by repeat (first | (with_reducible first | exact HB.out | apply below_alloc | apply pw_below_drewN | apply below_drew1) | exact HB.out)) hb); clear HO105; clear HO109; clear HB; have HO105 := n0_; have HO109 := n1_; have HB := n2_; clear n0_ n1_ n2_; (try clear hb); (try clear hb2); (try clear hk); (try clear hi)) | ((with_reducible refine gate_callee (f := 22) rfl ?_); refine goesL_ (some 83) rfl rfl Tryd.func22 (by kernel_rfl) rfl #[.string a0] rfl (by (try simp only [List.map_toArray, List.map_cons, List.map_nil]); first | done | rfl | (simp only [List.length_drop, List.length_take]; rfl)) ?_; (with_reducible refine (cognateref01_Back.calls k a0 t124 t125 _ A15.out).mono ?_); rintro e w26 ⟨rfl, hb⟩; refine ⟨_, rfl, ?_⟩; have n0_ := Aside0.mk (Kd.R_below (by (with_reducible repeat (first | apply Kd.R_alloc | apply Kd.R_drewN | apply Kd.R_drew)); exact HO105.out) hb); have n1_ := Aside0.mk (Kd.R_below (by (with_reducible repeat (first | apply Kd.R_alloc | apply Kd.R_drewN | apply Kd.R_drew)); exact HO109.out) hb); have n2_ := Aside0.mk (below_step (by repeat (first | (with_reducible first | exact HB.out | apply below_alloc | apply pw_below_drewN | apply below_drew1) | exact HB.out)) hb); clear HO105; clear HO109; clear HB; have HO105 := n0_; have HO109 := n1_; have HB := n2_; clear n0_ n1_ n2_; (try clear hb); (try clear hb2); (try clear hk); (try clear hi)))
    (try simp only [Act.put, List.setIfInBounds_toArray, List.set_cons_zero, List.set_cons_succ])
    go_cut [134] (fun v134 wc => ∃ (kq : Nat) (x134_15 : Bool), v134 = .bool x134_15 ∧ Aside0 (cognatelaw01_RunesTexts.j0 kq a0 t102 t106 t107 x134_15 = some r) ∧ Aside0 (kq ≤ k) ∧ Aside0 (Kd.R k35 35 wc w.heap.size (fun k_ => some k_ ≠ (v108 : Value).ownBlock) v104 t102) ∧ Aside0 (Kd.R k35 35 wc w.heap.size (fun k_ => some k_ ≠ (v104 : Value).ownBlock) v108 t106) ∧ Aside0 (Below w.heap.size w wc))
    case first =>
      have H := HC16.out
      clear HC16
      by_cases c27 : t103 = t107
      · rw [if_pos c27] at H
        have c27b0 : (t103 == t107) = true := beq_iff_eq.mpr c27
        have c27b1 : (t103 != t107) = false := bne_eq_false_iff_eq.mpr c27
        clear c27
        (first | rw [c27b0] | (simp only [i64_w, i32_w]; rw [c27b0]) | skip)
        by_cases c28 : t111 = t113
        · rw [if_pos c28] at H
          have c28b0 : (t111 == t113) = true := beq_iff_eq.mpr c28
          have c28b1 : (t111 != t113) = false := bne_eq_false_iff_eq.mpr c28
          clear c28
          by_cases c29 : t115 = t117
          · rw [if_pos c29] at H
            have c29b0 : (t115 == t117) = true := beq_iff_eq.mpr c29
            have c29b1 : (t115 != t117) = false := bne_eq_false_iff_eq.mpr c29
            clear c29
            by_cases c30 : t119 = t121
            · rw [if_pos c30] at H
              have c30b0 : (t119 == t121) = true := beq_iff_eq.mpr c30
              have c30b1 : (t119 != t121) = false := bne_eq_false_iff_eq.mpr c30
              clear c30
              by_cases c31 : t123 = t125
              · rw [if_pos c31] at H
                have c31b0 : (t123 == t125) = true := beq_iff_eq.mpr c31
                have c31b1 : (t123 != t125) = false := bne_eq_false_iff_eq.mpr c31
                clear c31
                by_cases c32 : t110 = t112
                · rw [if_pos c32] at H
                  have c32b0 : (t110 == t112) = true := beq_iff_eq.mpr c32
                  have c32b1 : (t110 != t112) = false := bne_eq_false_iff_eq.mpr c32
                  clear c32
                  by_cases c33 : t114 = t116
                  · rw [if_pos c33] at H
                    have c33b0 : (t114 == t116) = true := beq_iff_eq.mpr c33
                    have c33b1 : (t114 != t116) = false := bne_eq_false_iff_eq.mpr c33
                    clear c33
                    by_cases c34 : t118.toList = t120.toList
                    · rw [if_pos c34] at H
                      have c34b0 : (t118.toList == t120.toList) = true := beq_iff_eq.mpr c34
                      have c34b1 : (t118.toList != t120.toList) = false := bne_eq_false_iff_eq.mpr c34
                      clear c34
                      by_cases c35 : t122.toList = t124.toList
                      · rw [if_pos c35] at H
                        have c35b0 : (t122.toList == t124.toList) = true := beq_iff_eq.mpr c35
                        have c35b1 : (t122.toList != t124.toList) = false := bne_eq_false_iff_eq.mpr c35
                        clear c35
                        replace H := Option.bind_eq_some_iff.mp H
                        obtain ⟨t126, A360, H⟩ := H
                        replace H : (cognatelaw01_RunesTexts.j0 k a0 t102 t106 t107 (!t126)) = some r := H
                        have A36 := Aside0.mk A360
                        clear A360
                        have H' := Aside0.mk H
                        clear H
                        obtain ⟨Ao37, co37, eo37⟩ := Kd.R_slice HO105.out
                        subst eo37
                        obtain ⟨Ao38, co38, eo38⟩ := Kd.R_slice HO109.out
                        subst eo38
                        go_wp2_with (first | (go_at_call 23; (with_reducible refine (cognateref01_Same.calls k _ _ t102 _ _ t106 t126 _ ?side1 ?side2 ?side3 ?side4 A36.out).mono ?_); (case side1 => repeat (first | exact (Kd.R_reads' HO105.out).2.2 | (with_reducible refine Kd.C_alloc ?_ _) | (with_reducible refine Kd.C_drewN ?_ _) | (with_reducible refine Kd.C_drew ?_))); (case side2 => exact (Kd.R_reads' HO105.out).2.1); (case side3 => repeat (first | exact (Kd.R_reads' HO109.out).2.2 | (with_reducible refine Kd.C_alloc ?_ _) | (with_reducible refine Kd.C_drewN ?_ _) | (with_reducible refine Kd.C_drew ?_))); (case side4 => exact (Kd.R_reads' HO109.out).2.1); rintro e w' ⟨rfl, ⟨nd, rfl⟩⟩))
                        go_meet
                        case rel => exact ⟨_, (!t126), (by first | rfl | (simp; done) | (simp [*]; done)), H', ⟨by first | omega | exact Nat.le_refl _⟩, ⟨by (with_reducible repeat (first | apply Kd.R_alloc | apply Kd.R_drewN | apply Kd.R_drew)); exact Kd.R_mono HO105.out (fun _ hk => hk.2)⟩, ⟨by (with_reducible repeat (first | apply Kd.R_alloc | apply Kd.R_drewN | apply Kd.R_drew)); exact Kd.R_mono HO109.out (fun _ hk => hk.2)⟩, ⟨by repeat (first | (with_reducible first | exact HB.out | apply below_alloc | apply pw_below_drewN | apply below_drew1) | exact HB.out)⟩⟩
                      · rw [if_neg c35] at H
                        have c35b0 : (t122.toList == t124.toList) = false := beq_eq_false_iff_ne.mpr c35
                        have c35b1 : (t122.toList != t124.toList) = true := bne_iff_ne.mpr c35
                        have H' := Aside0.mk H
                        clear H
                        go_wp2
                        go_meet
                        case rel => exact ⟨_, (true), (by first | rfl | (simp; done) | (simp [*]; done)), H', ⟨by first | omega | exact Nat.le_refl _⟩, ⟨by (with_reducible repeat (first | apply Kd.R_alloc | apply Kd.R_drewN | apply Kd.R_drew)); exact Kd.R_mono HO105.out (fun _ hk => hk.2)⟩, ⟨by (with_reducible repeat (first | apply Kd.R_alloc | apply Kd.R_drewN | apply Kd.R_drew)); exact Kd.R_mono HO109.out (fun _ hk => hk.2)⟩, ⟨by repeat (first | (with_reducible first | exact HB.out | apply below_alloc | apply pw_below_drewN | apply below_drew1) | exact HB.out)⟩⟩
                    · rw [if_neg c34] at H
                      have c34b0 : (t118.toList == t120.toList) = false := beq_eq_false_iff_ne.mpr c34
                      have c34b1 : (t118.toList != t120.toList) = true := bne_iff_ne.mpr c34
                      have H' := Aside0.mk H
                      clear H
                      go_wp2
                      go_meet
                      case rel => exact ⟨_, (true), (by first | rfl | (simp; done) | (simp [*]; done)), H', ⟨by first | omega | exact Nat.le_refl _⟩, ⟨by (with_reducible repeat (first | apply Kd.R_alloc | apply Kd.R_drewN | apply Kd.R_drew)); exact Kd.R_mono HO105.out (fun _ hk => hk.2)⟩, ⟨by (with_reducible repeat (first | apply Kd.R_alloc | apply Kd.R_drewN | apply Kd.R_drew)); exact Kd.R_mono HO109.out (fun _ hk => hk.2)⟩, ⟨by repeat (first | (with_reducible first | exact HB.out | apply below_alloc | apply pw_below_drewN | apply below_drew1) | exact HB.out)⟩⟩
                  · rw [if_neg c33] at H
                    have c33b0 : (t114 == t116) = false := beq_eq_false_iff_ne.mpr c33
                    have c33b1 : (t114 != t116) = true := bne_iff_ne.mpr c33
                    have H' := Aside0.mk H
                    clear H
                    go_wp2
                    go_meet
                    case rel => exact ⟨_, (true), (by first | rfl | (simp; done) | (simp [*]; done)), H', ⟨by first | omega | exact Nat.le_refl _⟩, ⟨by (with_reducible repeat (first | apply Kd.R_alloc | apply Kd.R_drewN | apply Kd.R_drew)); exact Kd.R_mono HO105.out (fun _ hk => hk.2)⟩, ⟨by (with_reducible repeat (first | apply Kd.R_alloc | apply Kd.R_drewN | apply Kd.R_drew)); exact Kd.R_mono HO109.out (fun _ hk => hk.2)⟩, ⟨by repeat (first | (with_reducible first | exact HB.out | apply below_alloc | apply pw_below_drewN | apply below_drew1) | exact HB.out)⟩⟩
                · rw [if_neg c32] at H
                  have c32b0 : (t110 == t112) = false := beq_eq_false_iff_ne.mpr c32
                  have c32b1 : (t110 != t112) = true := bne_iff_ne.mpr c32
                  have H' := Aside0.mk H
                  clear H
                  go_wp2
                  go_meet
                  case rel => exact ⟨_, (true), (by first | rfl | (simp; done) | (simp [*]; done)), H', ⟨by first | omega | exact Nat.le_refl _⟩, ⟨by (with_reducible repeat (first | apply Kd.R_alloc | apply Kd.R_drewN | apply Kd.R_drew)); exact Kd.R_mono HO105.out (fun _ hk => hk.2)⟩, ⟨by (with_reducible repeat (first | apply Kd.R_alloc | apply Kd.R_drewN | apply Kd.R_drew)); exact Kd.R_mono HO109.out (fun _ hk => hk.2)⟩, ⟨by repeat (first | (with_reducible first | exact HB.out | apply below_alloc | apply pw_below_drewN | apply below_drew1) | exact HB.out)⟩⟩
              · rw [if_neg c31] at H
                have c31b0 : (t123 == t125) = false := beq_eq_false_iff_ne.mpr c31
                have c31b1 : (t123 != t125) = true := bne_iff_ne.mpr c31
                have H' := Aside0.mk H
                clear H
                go_wp2
                go_meet
                case rel => exact ⟨_, (true), (by first | rfl | (simp; done) | (simp [*]; done)), H', ⟨by first | omega | exact Nat.le_refl _⟩, ⟨by (with_reducible repeat (first | apply Kd.R_alloc | apply Kd.R_drewN | apply Kd.R_drew)); exact Kd.R_mono HO105.out (fun _ hk => hk.2)⟩, ⟨by (with_reducible repeat (first | apply Kd.R_alloc | apply Kd.R_drewN | apply Kd.R_drew)); exact Kd.R_mono HO109.out (fun _ hk => hk.2)⟩, ⟨by repeat (first | (with_reducible first | exact HB.out | apply below_alloc | apply pw_below_drewN | apply below_drew1) | exact HB.out)⟩⟩
            · rw [if_neg c30] at H
              have c30b0 : (t119 == t121) = false := beq_eq_false_iff_ne.mpr c30
              have c30b1 : (t119 != t121) = true := bne_iff_ne.mpr c30
              have H' := Aside0.mk H
              clear H
              go_wp2
              go_meet
              case rel => exact ⟨_, (true), (by first | rfl | (simp; done) | (simp [*]; done)), H', ⟨by first | omega | exact Nat.le_refl _⟩, ⟨by (with_reducible repeat (first | apply Kd.R_alloc | apply Kd.R_drewN | apply Kd.R_drew)); exact Kd.R_mono HO105.out (fun _ hk => hk.2)⟩, ⟨by (with_reducible repeat (first | apply Kd.R_alloc | apply Kd.R_drewN | apply Kd.R_drew)); exact Kd.R_mono HO109.out (fun _ hk => hk.2)⟩, ⟨by repeat (first | (with_reducible first | exact HB.out | apply below_alloc | apply pw_below_drewN | apply below_drew1) | exact HB.out)⟩⟩
          · rw [if_neg c29] at H
            have c29b0 : (t115 == t117) = false := beq_eq_false_iff_ne.mpr c29
            have c29b1 : (t115 != t117) = true := bne_iff_ne.mpr c29
            have H' := Aside0.mk H
            clear H
            go_wp2
            go_meet
            case rel => exact ⟨_, (true), (by first | rfl | (simp; done) | (simp [*]; done)), H', ⟨by first | omega | exact Nat.le_refl _⟩, ⟨by (with_reducible repeat (first | apply Kd.R_alloc | apply Kd.R_drewN | apply Kd.R_drew)); exact Kd.R_mono HO105.out (fun _ hk => hk.2)⟩, ⟨by (with_reducible repeat (first | apply Kd.R_alloc | apply Kd.R_drewN | apply Kd.R_drew)); exact Kd.R_mono HO109.out (fun _ hk => hk.2)⟩, ⟨by repeat (first | (with_reducible first | exact HB.out | apply below_alloc | apply pw_below_drewN | apply below_drew1) | exact HB.out)⟩⟩
        · rw [if_neg c28] at H
          have c28b0 : (t111 == t113) = false := beq_eq_false_iff_ne.mpr c28
          have c28b1 : (t111 != t113) = true := bne_iff_ne.mpr c28
          have H' := Aside0.mk H
          clear H
          go_wp2
          go_meet
          case rel => exact ⟨_, (true), (by first | rfl | (simp; done) | (simp [*]; done)), H', ⟨by first | omega | exact Nat.le_refl _⟩, ⟨by (with_reducible repeat (first | apply Kd.R_alloc | apply Kd.R_drewN | apply Kd.R_drew)); exact Kd.R_mono HO105.out (fun _ hk => hk.2)⟩, ⟨by (with_reducible repeat (first | apply Kd.R_alloc | apply Kd.R_drewN | apply Kd.R_drew)); exact Kd.R_mono HO109.out (fun _ hk => hk.2)⟩, ⟨by repeat (first | (with_reducible first | exact HB.out | apply below_alloc | apply pw_below_drewN | apply below_drew1) | exact HB.out)⟩⟩
      · rw [if_neg c27] at H
        have c27b0 : (t103 == t107) = false := beq_eq_false_iff_ne.mpr c27
        have c27b1 : (t103 != t107) = true := bne_iff_ne.mpr c27
        (first | rw [c27b0] | (simp only [i64_w, i32_w]; rw [c27b0]) | skip)
        have H' := Aside0.mk H
        clear H
        go_wp2
        go_meet
        case rel => exact ⟨_, (true), (by first | rfl | (simp; done) | (simp [*]; done)), H', ⟨by first | omega | exact Nat.le_refl _⟩, ⟨by (with_reducible repeat (first | apply Kd.R_alloc | apply Kd.R_drewN | apply Kd.R_drew)); exact Kd.R_mono HO105.out (fun _ hk => hk.2)⟩, ⟨by (with_reducible repeat (first | apply Kd.R_alloc | apply Kd.R_drewN | apply Kd.R_drew)); exact Kd.R_mono HO109.out (fun _ hk => hk.2)⟩, ⟨by repeat (first | (with_reducible first | exact HB.out | apply below_alloc | apply pw_below_drewN | apply below_drew1) | exact HB.out)⟩⟩
    case rest =>
      clear HC16
      try clear c1
      try clear c2
      try clear p2
      try clear c3
      try clear c4
      try clear c5
      try clear c12
      try clear c13
      try clear c14
      try clear c15
      try clear c16
      try clear c17
      try clear c18
      try clear c19
      try clear c20
      try clear c21
      try clear c22
      try clear c27
      try clear c27b0
      try clear c27b1
      try clear c28
      try clear c28b0
      try clear c28b1
      try clear c29
      try clear c29b0
      try clear c29b1
      try clear c30
      try clear c30b0
      try clear c30b1
      try clear c31
      try clear c31b0
      try clear c31b1
      try clear c32
      try clear c32b0
      try clear c32b1
      try clear c33
      try clear c33b0
      try clear c33b1
      try clear c34
      try clear c34b0
      try clear c34b1
      try clear c35
      try clear c35b0
      try clear c35b1
      obtain ⟨kq, x134_15, rfl, HA, HJ15, HO_7, HO_9, HB⟩ := hcut
      cases kq with
      | zero => exact absurd HA.out (by simp [cognatelaw01_RunesTexts.j0])
      | succ kj15 =>
        have H := HA.out
        clear HA
        simp only [cognatelaw01_RunesTexts.j0] at H
        by_cases c39 : x134_15 = true
        · subst c39
          have H1 : (some false) = some r := by rw [if_pos rfl] at H; exact H
          clear H
          have H := H1
          clear H1
          obtain rfl := Option.some.inj H
          go_wp2
          go_ret
          exact ⟨by first | rfl | (simp [errW_none, errW_some] <;> rfl) | (simp [*, errW_none, errW_some] <;> rfl), by repeat (first | (with_reducible first | exact HB.out | apply below_alloc | apply pw_below_drewN | apply below_drew1) | exact HB.out)⟩
        · replace c39 := Bool.eq_false_iff.mpr c39
          subst c39
          have H1 : (cognatelaw01_RunesTexts.l0 kj15 a0 t102 t106 t107 0) = some r := by rw [if_neg (show ¬ (false = true) by decide)] at H; exact H
          clear H
          have H := H1
          clear H1
          have H' := Aside0.mk H
          clear H
          go_wp2
          go_loopg [27] kj15 (fun kq v27 w' => ∃ (x7_2 : List (S35)) (x27_2 : Int), v27 = .int .i64 x27_2 ∧ Aside0 (cognatelaw01_RunesTexts.l0 kq a0 x7_2 t106 t107 x27_2 = some r) ∧ Aside0 (kq ≤ kj15) ∧ Aside0 (Kd.R k35 35 w' w.heap.size (fun k_ => some k_ ≠ (v108 : Value).ownBlock) v104 x7_2) ∧ Aside0 (Kd.R k35 35 w' w.heap.size (fun k_ => some k_ ≠ (v104 : Value).ownBlock) v108 t106) ∧ Aside0 (Below w.heap.size w w'))
          case atStart => exact ⟨(t102), (0), (by first | rfl | (simp; done) | (simp [*]; done)), H', ⟨Nat.le_refl _⟩, ⟨by (with_reducible repeat (first | apply Kd.R_alloc | apply Kd.R_drewN | apply Kd.R_drew)); exact HO_7.out⟩, ⟨by (with_reducible repeat (first | apply Kd.R_alloc | apply Kd.R_drewN | apply Kd.R_drew)); exact HO_9.out⟩, ⟨by repeat (first | (with_reducible first | exact HB.out | apply below_alloc | apply pw_below_drewN | apply below_drew1) | exact HB.out)⟩⟩
          case round =>
            clear H'
            try clear c1
            try clear c2
            try clear p2
            try clear c3
            try clear c4
            try clear c5
            try clear c12
            try clear c13
            try clear c14
            try clear c15
            try clear c16
            try clear c17
            try clear c18
            try clear c19
            try clear c20
            try clear c21
            try clear c22
            try clear c27
            try clear c27b0
            try clear c27b1
            try clear c28
            try clear c28b0
            try clear c28b1
            try clear c29
            try clear c29b0
            try clear c29b1
            try clear c30
            try clear c30b0
            try clear c30b1
            try clear c31
            try clear c31b0
            try clear c31b1
            try clear c32
            try clear c32b0
            try clear c32b1
            try clear c33
            try clear c33b0
            try clear c33b1
            try clear c34
            try clear c34b0
            try clear c34b1
            try clear c35
            try clear c35b0
            try clear c35b1
            try clear c39
            try clear p2
            obtain ⟨x7_2, x27_2, rfl, HA, HK2, HO_7, HO_9, HB⟩ := hrel
            cases gk with
            | zero => exact absurd HA.out (by simp [cognatelaw01_RunesTexts.l0])
            | succ k2 =>
              have H := HA.out
              clear HA
              simp only [cognatelaw01_RunesTexts.l0] at H
              by_cases c40 : x27_2 < (x7_2.length : Int)
              · rw [if_pos c40] at H
                have c40b0 : decide (x27_2 < (x7_2.length : Int)) = true := decide_eq_true c40
                clear c40
                by_cases c41 : 0 ≤ x27_2
                · rw [if_pos c41] at H
                  have c41b0 : decide (0 ≤ x27_2) = true := decide_eq_true c41
                  clear c41
                  obtain ⟨y127, hy127⟩ : ∃ y_ : List (S35), y_ = (x7_2.set (x27_2 : Int).toNat (⟨77, 0, 0, false⟩ : S35)) := ⟨_, rfl⟩
                  replace H : (cognatelaw01_RunesTexts.l0 k2 a0 y127 t106 t107 (wrap64 (x27_2 + 1))) = some r := by first | (rw [hy127]; with_reducible exact H) | (have H2_ := (Option.bind_some _ _).symm.trans H; rw [hy127]; with_reducible exact H2_) | (have H2_ := (Option.bind_some _ _).symm.trans H; with_reducible exact H2_) | with_reducible exact H | (rw [hy127]; exact H) | exact H
                  have Ny127 := Aside0.mk hy127
                  clear hy127
                  have H' := Aside0.mk H
                  clear H
                  obtain ⟨Ao43, co43, eo43⟩ := Kd.R_slice HO_7.out
                  subst eo43
                  have p42 : 0 ≤ (x27_2 : Int) := of_decide_eq_true (by first | (with_reducible assumption) | assumption)
                  have q42 : (x27_2 : Int) < ((x7_2.length : Int) : Int) := of_decide_eq_true (by first | (with_reducible assumption) | assumption)
                  obtain ⟨go42, co42, eo42, gb42, gl42, cl42, HG42⟩ := Kd.R_form HO_7.out (by omega)
                  (first | cases eo42 | (injection eo42 with ea_ en_ ec_; (first | subst ea_ | (injection ea_ with ea_; subst ea_)); subst ec_; clear en_))
                  have GB42 := Aside0.mk gb42
                  have GG42 := Aside0.mk HG42
                  clear gb42 gl42 HG42
                  obtain ⟨ce42, hcl42, hM42, hcc42, hfr42⟩ := Kd.R_elem HO_7.out z35 (x27_2 : Int) p42 q42
                  obtain rfl := k35_openM hM42
                  have hx42_0 : wr.cell? ⟨go42, (x27_2 : Int).toNat * 4, none⟩ = some (.int .i32 ((rd_T35 x7_2 x27_2).f0)) := hcc42 0 _ rfl
                  have hx42_1 : wr.cell? ⟨go42, (x27_2 : Int).toNat * 4 + 1, none⟩ = some (.int .i64 ((rd_T35 x7_2 x27_2).f1)) := hcc42 1 _ rfl
                  have hx42_2 : wr.cell? ⟨go42, (x27_2 : Int).toNat * 4 + 2, none⟩ = some (.int .i64 ((rd_T35 x7_2 x27_2).f2)) := hcc42 2 _ rfl
                  have hx42_3 : wr.cell? ⟨go42, (x27_2 : Int).toNat * 4 + 3, none⟩ = some (.bool ((rd_T35 x7_2 x27_2).f3)) := hcc42 3 _ rfl
                  have hf42_0 : wr.frozen? ⟨go42, (x27_2 : Int).toNat * 4, none⟩ = false := hfr42 0
                  have hf42_1 : wr.frozen? ⟨go42, (x27_2 : Int).toNat * 4 + 1, none⟩ = false := hfr42 1
                  have hf42_2 : wr.frozen? ⟨go42, (x27_2 : Int).toNat * 4 + 2, none⟩ = false := hfr42 2
                  have hf42_3 : wr.frozen? ⟨go42, (x27_2 : Int).toNat * 4 + 3, none⟩ = false := hfr42 3
                  clear hcl42 hcc42 hfr42 hM42
                  replace p42 := eq_true p42
                  replace q42 := eq_true q42
                  have HX44 := Aside0.mk (show Kd.R k35 35 wr w.heap.size (fun k_ => some k_ ≠ (v108 : Value).ownBlock) (.slice (some ⟨go42, 0, none⟩) x7_2.length co43) x7_2 from (by (with_reducible repeat (first | apply Kd.R_alloc | apply Kd.R_drewN | apply Kd.R_drew)); exact HO_7.out))
                  obtain ⟨ce44, hcl44, hM44, hcc44, hfr44⟩ := Kd.R_elem HX44.out z35 (x27_2 : Int) (of_decide_eq_true (by first | (with_reducible assumption) | assumption)) (by have h_ : (x27_2 : Int) < ((x7_2.length : Int) : Int) := of_decide_eq_true (by first | (with_reducible assumption) | assumption); first | exact h_ | (have e_ := (Kd.R_reads' HO_7.out).1; omega) | simpa using h_)
                  obtain rfl := k35_openM hM44
                  have HP44 := Kd.R_seg HX44.out (x27_2 : Int) (of_decide_eq_true (by first | (with_reducible assumption) | assumption)) (by have h_ : (x27_2 : Int) < ((x7_2.length : Int) : Int) := of_decide_eq_true (by first | (with_reducible assumption) | assumption); first | exact h_ | (have e_ := (Kd.R_reads' HO_7.out).1; omega) | simpa using h_) (seg := [.int .i32 77, .int .i64 0, .int .i64 0, .bool false]) (j := 0) hcl44 hcc44 (show 4 ≤ 4 from by decide) (x' := (⟨77, 0, 0, false⟩ : S35)) (k35_mkM _ _ _ (⟨77, 0, 0, false⟩ : S35) ) (fun _ hk => hk)
                  have hx44_0 := hcc44 0 _ rfl
                  (try simp only [show (k35).sz = 4 from rfl, Nat.mul_one, Nat.add_zero] at hx44_0)
                  have hf44_0 := hfr44 0
                  (try simp only [show (k35).sz = 4 from rfl, Nat.mul_one, Nat.add_zero] at hf44_0)
                  have hx44_1 := hcc44 1 _ rfl
                  (try simp only [show (k35).sz = 4 from rfl, Nat.mul_one, Nat.add_zero] at hx44_1)
                  have hf44_1 := hfr44 1
                  (try simp only [show (k35).sz = 4 from rfl, Nat.mul_one, Nat.add_zero] at hf44_1)
                  have hx44_2 := hcc44 2 _ rfl
                  (try simp only [show (k35).sz = 4 from rfl, Nat.mul_one, Nat.add_zero] at hx44_2)
                  have hf44_2 := hfr44 2
                  (try simp only [show (k35).sz = 4 from rfl, Nat.mul_one, Nat.add_zero] at hf44_2)
                  have hx44_3 := hcc44 3 _ rfl
                  (try simp only [show (k35).sz = 4 from rfl, Nat.mul_one, Nat.add_zero] at hx44_3)
                  have hf44_3 := hfr44 3
                  (try simp only [show (k35).sz = 4 from rfl, Nat.mul_one, Nat.add_zero] at hf44_3)
                  clear hcl44 hcc44 hfr44 hM44
                  go_wp2_with (first | ((with_reducible refine gate_store (t := 35) (p := 144) rfl ?_); refine store_event (t := 35) (p := 144) (v := ?vo_w45) (w1 := ((((wr.setCell ⟨go42, (x27_2 : Int).toNat * 4, none⟩ (.int .i32 77)).setCell ⟨go42, (x27_2 : Int).toNat * 4 + 1, none⟩ (.int .i64 0)).setCell ⟨go42, (x27_2 : Int).toNat * 4 + 2, none⟩ (.int .i64 0)).setCell ⟨go42, (x27_2 : Int).toNat * 4 + 3, none⟩ (.bool false))) ?hg ?ho ?hn ?hr ?_; (case ho => rfl); (case hg => rfl); (case hn => rfl); (case hr => first | (go_simp; done) | (go_simp; rfl)); intro w45 hw; have hg : wr.grownBy w45 (some go42) := (by rw [hw]; exact HP44.2); have hp_ : Kd.R k35 35 w45 w.heap.size (fun k_ => some k_ ≠ (v108 : Value).ownBlock) (.slice (some ⟨go42, 0, none⟩) x7_2.length co43) y127 := (by rw [hw, Ny127.out]; exact HP44.1); clear HP44; have n0_ := Aside0.mk (hp_); have n1_ := Aside0.mk (Kd.R_after (v := (.slice (some ⟨go42, 0, none⟩) x7_2.length co43)) (v1 := (.slice (some ⟨go42, 0, none⟩) x7_2.length co43)) (ok := (fun _ => True)) (by (with_reducible repeat (first | apply Kd.R_alloc | apply Kd.R_drewN | apply Kd.R_drew)); exact Kd.R_mono HO_9.out (fun _ hk => ⟨trivial, hk⟩)) hg (.inl rfl)); have n2_ := Aside0.mk ((by rw [hw]; exact below_set (below_set (below_set (below_set (HB.out) GB42.out) GB42.out) GB42.out) GB42.out : Below w.heap.size w w45)); clear HO_7; clear HO_9; clear HB; have HO_7 := n0_; have HO_9 := n1_; have HB := n2_; clear n0_ n1_ n2_; clear hg hw hp_))
                  go_roundg k2
                  case measure => have := HJ15.out; have := HK2.out; omega
                  case rel => exact ⟨(y127), (wrap64 (x27_2 + 1)), (by first | rfl | (simp; done) | (simp [*]; done)), H', ⟨by have := HJ15.out; have := HK2.out; omega⟩, ⟨by (with_reducible repeat (first | apply Kd.R_alloc | apply Kd.R_drewN | apply Kd.R_drew)); exact HO_7.out⟩, ⟨by (with_reducible repeat (first | apply Kd.R_alloc | apply Kd.R_drewN | apply Kd.R_drew)); exact Kd.R_mono HO_9.out (fun _ hk => hk.2)⟩, ⟨by repeat (first | (with_reducible first | exact HB.out | apply below_alloc | apply pw_below_drewN | apply below_drew1) | exact HB.out)⟩⟩
                · rw [if_neg c41] at H
                  exact absurd H (by simp)
              · rw [if_neg c40] at H
                have c40b0 : decide (x27_2 < (x7_2.length : Int)) = false := decide_eq_false c40
                clear c40
                replace H := Option.bind_eq_some_iff.mp H
                obtain ⟨⟨t128, t129⟩, A460, H⟩ := H
                replace H : (if t129 = t107 then ((cognateref01_Same.f k2 t128 t106).bind fun t132 => (some t132)) else (some false)) = some r := H
                have A46 := Aside0.mk A460
                clear A460
                by_cases c47 : t129 = t107
                · rw [if_pos c47] at H
                  have c47b0 : (t129 == t107) = true := beq_iff_eq.mpr c47
                  have c47b1 : (t129 != t107) = false := bne_eq_false_iff_eq.mpr c47
                  clear c47
                  replace H := Option.bind_eq_some_iff.mp H
                  obtain ⟨t132, A480, H⟩ := H
                  replace H : (some t132) = some r := H
                  have A48 := Aside0.mk A480
                  clear A480
                  obtain rfl := Option.some.inj H
                  obtain ⟨Ao49, co49, eo49⟩ := Kd.R_slice HO_7.out
                  subst eo49
                  go_wp2_with (first | ((with_reducible refine gate_callee (f := 13) rfl ?_); refine goesL_ (some 147) rfl rfl Tryd.func13 (by kernel_rfl) rfl #[.string a0] rfl (by (try simp only [List.map_toArray, List.map_cons, List.map_nil]); first | done | rfl | (simp only [List.length_drop, List.length_take]; rfl)) ?_; (with_reducible refine (runes_Pieces.calls a0 t128 t129 _ ?side1 A46.out).mono ?_); (case side1 => exact TabU.below HTU.out (by repeat (first | (with_reducible first | exact HB.out | apply below_alloc | apply pw_below_drewN | apply below_drew1) | exact HB.out))); rintro e w50 ⟨v130, rfl, ho0, hb⟩; refine ⟨_, rfl, ?_⟩; have n0_ := Aside0.mk (Kd.R_elder' (by (with_reducible repeat (first | apply Kd.R_alloc | apply Kd.R_drewN | apply Kd.R_drew)); exact HO_7.out) (Kd.R_base ho0) hb); have n1_ := Aside0.mk (Kd.R_elder' (by (with_reducible repeat (first | apply Kd.R_alloc | apply Kd.R_drewN | apply Kd.R_drew)); exact HO_9.out) (Kd.R_base ho0) hb); have n2_ := Aside0.mk (Kd.R_lower (Kd.R_new' (Kd.R_new' ho0 (Kd.R_lt (by (with_reducible repeat (first | apply Kd.R_alloc | apply Kd.R_drewN | apply Kd.R_drew)); exact HO_7.out))) (Kd.R_lt (by (with_reducible repeat (first | apply Kd.R_alloc | apply Kd.R_drewN | apply Kd.R_drew)); exact HO_9.out))) (below_size (by repeat (first | (with_reducible first | exact HB.out | apply below_alloc | apply pw_below_drewN | apply below_drew1) | exact HB.out)))); have n3_ := Aside0.mk (below_step (by repeat (first | (with_reducible first | exact HB.out | apply below_alloc | apply pw_below_drewN | apply below_drew1) | exact HB.out)) hb); clear HO_7; clear HO_9; clear HB; have HO_7 := n0_; have HO_9 := n1_; have HO131 := n2_; have HB := n3_; clear n0_ n1_ n2_ n3_; (try clear hb); (try clear hb2); (try clear hk); (try clear hi); (try clear ho0); obtain ⟨Ao51, co51, eo51⟩ := Kd.R_slice HO131.out; subst eo51; obtain ⟨Ao52, co52, eo52⟩ := Kd.R_slice HO_9.out; subst eo52) | (go_at_call 23; (with_reducible refine (cognateref01_Same.calls k2 _ _ t128 _ _ t106 t132 _ ?side1 ?side2 ?side3 ?side4 A48.out).mono ?_); (case side1 => repeat (first | exact (Kd.R_reads' HO131.out).2.2 | (with_reducible refine Kd.C_alloc ?_ _) | (with_reducible refine Kd.C_drewN ?_ _) | (with_reducible refine Kd.C_drew ?_))); (case side2 => exact (Kd.R_reads' HO131.out).2.1); (case side3 => repeat (first | exact (Kd.R_reads' HO_9.out).2.2 | (with_reducible refine Kd.C_alloc ?_ _) | (with_reducible refine Kd.C_drewN ?_ _) | (with_reducible refine Kd.C_drew ?_))); (case side4 => exact (Kd.R_reads' HO_9.out).2.1); rintro e w' ⟨rfl, ⟨nd, rfl⟩⟩))
                  go_ret
                  exact ⟨by first | rfl | (simp [errW_none, errW_some] <;> rfl) | (simp [*, errW_none, errW_some] <;> rfl), by repeat (first | (with_reducible first | exact HB.out | apply below_alloc | apply pw_below_drewN | apply below_drew1) | exact HB.out)⟩
                · rw [if_neg c47] at H
                  have c47b0 : (t129 == t107) = false := beq_eq_false_iff_ne.mpr c47
                  have c47b1 : (t129 != t107) = true := bne_iff_ne.mpr c47
                  obtain rfl := Option.some.inj H
                  obtain ⟨Ao53, co53, eo53⟩ := Kd.R_slice HO_7.out
                  subst eo53
                  go_wp2_with (first | ((with_reducible refine gate_callee (f := 13) rfl ?_); refine goesL_ (some 147) rfl rfl Tryd.func13 (by kernel_rfl) rfl #[.string a0] rfl (by (try simp only [List.map_toArray, List.map_cons, List.map_nil]); first | done | rfl | (simp only [List.length_drop, List.length_take]; rfl)) ?_; (with_reducible refine (runes_Pieces.calls a0 t128 t129 _ ?side1 A46.out).mono ?_); (case side1 => exact TabU.below HTU.out (by repeat (first | (with_reducible first | exact HB.out | apply below_alloc | apply pw_below_drewN | apply below_drew1) | exact HB.out))); rintro e w54 ⟨v130, rfl, ho0, hb⟩; refine ⟨_, rfl, ?_⟩; have n0_ := Aside0.mk (Kd.R_elder' (by (with_reducible repeat (first | apply Kd.R_alloc | apply Kd.R_drewN | apply Kd.R_drew)); exact HO_7.out) (Kd.R_base ho0) hb); have n1_ := Aside0.mk (Kd.R_elder' (by (with_reducible repeat (first | apply Kd.R_alloc | apply Kd.R_drewN | apply Kd.R_drew)); exact HO_9.out) (Kd.R_base ho0) hb); have n2_ := Aside0.mk (Kd.R_lower (Kd.R_new' (Kd.R_new' ho0 (Kd.R_lt (by (with_reducible repeat (first | apply Kd.R_alloc | apply Kd.R_drewN | apply Kd.R_drew)); exact HO_7.out))) (Kd.R_lt (by (with_reducible repeat (first | apply Kd.R_alloc | apply Kd.R_drewN | apply Kd.R_drew)); exact HO_9.out))) (below_size (by repeat (first | (with_reducible first | exact HB.out | apply below_alloc | apply pw_below_drewN | apply below_drew1) | exact HB.out)))); have n3_ := Aside0.mk (below_step (by repeat (first | (with_reducible first | exact HB.out | apply below_alloc | apply pw_below_drewN | apply below_drew1) | exact HB.out)) hb); clear HO_7; clear HO_9; clear HB; have HO_7 := n0_; have HO_9 := n1_; have HO131 := n2_; have HB := n3_; clear n0_ n1_ n2_ n3_; (try clear hb); (try clear hb2); (try clear hk); (try clear hi); (try clear ho0)))
                  go_ret
                  exact ⟨by first | rfl | (simp [errW_none, errW_some] <;> rfl) | (simp [*, errW_none, errW_some] <;> rfl), by repeat (first | (with_reducible first | exact HB.out | apply below_alloc | apply pw_below_drewN | apply below_drew1) | exact HB.out)⟩

/-- THE ONE PURE STATEMENT of cognatelaw01_RunesTexts: yours. -/
def cognatelaw01_RunesTexts.Pure : Prop := ∀ (a0 : ByteArray) (a1 : Int) (a2 : Int), a0.size ≤ 140737488351232 → (Lit.int .i64 a1).wf = true → (Lit.int .i64 a2).wf = true → ∃ k, cognatelaw01_RunesTexts.f k a0 a1 a2 = some true
theorem cognatelaw01_RunesTexts.walk (P : cognatelaw01_RunesTexts.Pure) (a0 : ByteArray) (a1 : Int) (a2 : Int) (w : World) (hTU : TabU w) (w0 : a0.size ≤ 140737488351232) (w1 : (Lit.int .i64 a1).wf = true) (w2 : (Lit.int .i64 a2).wf = true) :
    Calls Tryd.prog 4 #[.string a0, .int .i64 a1, .int .i64 a2] w fun e w' => e = .returned (.bool true) ∧ Below w.heap.size w w' := by
  obtain ⟨k, h⟩ := P a0 a1 a2 w0 w1 w2
  refine (cognatelaw01_RunesTexts.calls k a0 a1 a2 true w hTU h).mono ?_
  rintro e w' ⟨rfl, hd⟩
  exact ⟨rfl, hd⟩

end Go.Proofs.YtglaagoblcpggaaDoor.R
