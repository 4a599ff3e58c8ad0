-- Written by my program oprint.py (a driver round the kit's printer) out of the translation. Lean checks it.
import Derived.Test.YtglaagoblcpggaaDoorK
import Derived.Test.YtglaagoblcpggaaDoorF15
import Derived.Test.YtglaagoblcpggaaDoorF24
import Derived.Test.YtglaagoblcpggaaDoorHB
import Derived.Test.YtglaagoblcpggaaDoorHP
import Derived.Test.YtglaagoblcpggaaDoorHQ
import Derived.Test.YtglaagoblcpggaaDoorHT
import Derived.Test.YtglaagoblcpggaaDoorHU
import Derived.Test.YtglaagoblcpggaaDoorTabs
namespace Go.Proofs.YtglaagoblcpggaaDoor.R
open Go.RowKit Go.Proofs.YtglaagoblcpggaaDoorW.PrintWords Go.Proofs.YtglaagoblcpggaaDoorW.PrintLast Go.Proofs.YtglaagoblcpggaaDoorW.PrintMore
attribute [local go_sem] max2_int min2_int max_two min_two max_three min_three max_four min_four   -- for this text's walks alone
set_option linter.unusedVariables false
set_option linter.unusedSimpArgs false

/-! ### cognatelaw01_RunesBack: function 6 -/
mutual
def cognatelaw01_RunesBack.l0 : Nat → ByteArray → Int → Bool → List (S35) → Int → List Int → Int → Option (Bool)
  | 0, _, _, _, _, _, _, _ => none
  | k + 1, x0, x1, x5, x6, x8, x9, x10 => if x10 < (x6.length : Int) then (if 0 ≤ x10 then (if ((rd_T35 x6 x10).f1) = x8 then (if ((rd_T35 x6 x10).f2) < 1 then (cognatelaw01_RunesBack.j1 k x0 x1 x5 x6 x8 x9 x10 true ((rd_T35 x6 x10).f0) ((rd_T35 x6 x10).f1) ((rd_T35 x6 x10).f2) ((rd_T35 x6 x10).f3)) else (cognatelaw01_RunesBack.j1 k x0 x1 x5 x6 x8 x9 x10 (decide ((wrap64 (x8 + ((rd_T35 x6 x10).f2))) > (x0.size : Int))) ((rd_T35 x6 x10).f0) ((rd_T35 x6 x10).f1) ((rd_T35 x6 x10).f2) ((rd_T35 x6 x10).f3))) else (cognatelaw01_RunesBack.j1 k x0 x1 x5 x6 x8 x9 x10 true ((rd_T35 x6 x10).f0) ((rd_T35 x6 x10).f1) ((rd_T35 x6 x10).f2) ((rd_T35 x6 x10).f3))) else (none)) else (if (wrap64 ((x6.length : Int) + 1)) = 0 then (none) else ((runes_Part.f x0 0 (Int.tmod (wrap64 ((Int.tmod x1 (wrap64 ((x6.length : Int) + 1))) + (wrap64 ((x6.length : Int) + 1)))) (wrap64 ((x6.length : Int) + 1)))).bind fun bt116 => ((runes_Part.f x0 (Int.tmod (wrap64 ((Int.tmod x1 (wrap64 ((x6.length : Int) + 1))) + (wrap64 ((x6.length : Int) + 1)))) (wrap64 ((x6.length : Int) + 1))) (x6.length : Int)).bind fun bt118 => ((runes_Back.f x0).bind fun bt120 => ((runes_Len.f bt120.1).bind fun bt122 => (if x8 = (x0.size : Int) then (if bt116.2 = 0 then (if bt118.2 = 0 then (if bt120.2 = 0 then (if bt122.2 = 0 then (if bt116.1.size + bt118.1.size ≤ 9223372036854775807 then (if (bt116.1 ++ bt118.1).toList = x0.toList then (if bt122.1 = (x6.length : Int) then ((runes_Text.f x9).bind fun t124 => (cognatelaw01_RunesBack.j2 k x5 bt120.1 (bt120.1.toList != t124.toList))) else (cognatelaw01_RunesBack.j2 k x5 bt120.1 true)) else (cognatelaw01_RunesBack.j2 k x5 bt120.1 true)) else (none)) else (cognatelaw01_RunesBack.j2 k x5 bt120.1 true)) else (cognatelaw01_RunesBack.j2 k x5 bt120.1 true)) else (cognatelaw01_RunesBack.j2 k x5 bt120.1 true)) else (cognatelaw01_RunesBack.j2 k x5 bt120.1 true)) else (cognatelaw01_RunesBack.j2 k x5 bt120.1 true)))))))
def cognatelaw01_RunesBack.j1 : Nat → ByteArray → Int → Bool → List (S35) → Int → List Int → Int → Bool → Int → Int → Int → Bool → Option (Bool)
  | 0, _, _, _, _, _, _, _, _, _, _, _, _ => none
  | k + 1, x0, x1, x5, x6, x8, x9, x10, x67, x108000, x108001, x108002, x108003 => if x67 = true then (some false) else (if 0 ≤ x8 then (if x8 ≤ (x0.size : Int) then ((utf8_DecodeRuneInString.f (x0.extract (x8 : Int).toNat x0.size)).bind fun bt108 => (if x108000 = bt108.1 then (if x108002 = bt108.2 then (if bt108.1 = 65533 then (if (x108003 != (bt108.2 == 1)) = true then (some false) else (if x9.length < 35184372088832 then (cognatelaw01_RunesBack.l0 k x0 x1 x5 x6 (wrap64 (x8 + bt108.2)) (x9 ++ [bt108.1]) (wrap64 (x10 + 1))) else (none))) else (if (x108003 != false) = true then (some false) else (if x9.length < 35184372088832 then (cognatelaw01_RunesBack.l0 k x0 x1 x5 x6 (wrap64 (x8 + bt108.2)) (x9 ++ [bt108.1]) (wrap64 (x10 + 1))) else (none)))) else (some false)) else (some false))) else (none)) else (none))
def cognatelaw01_RunesBack.j2 : Nat → Bool → ByteArray → Bool → Option (Bool)
  | 0, _, _, _ => none
  | k + 1, x5, x20, x175 => if x175 = true then (some false) else ((runes_Broken.f x20).bind fun bt125 => ((runes_Back.f x20).bind fun bt127 => (if x5 = true then (if bt125.2 = 0 then (if bt125.1 = (-1) then (if bt127.2 = 0 then (some (bt127.1.toList == x20.toList)) else (some false)) else (some false)) else (some false)) else (some false))))
end
def cognatelaw01_RunesBack.f (k : Nat) (a0 : ByteArray) (a1 : Int) : Option (Bool) := (cognatelaw01_alive.f k).bind fun t101 => (if (a0.size : Int) > 5000 then (some t101) else ((runes_Pieces.f a0).bind fun bt102 => (if bt102.2 = 0 then (cognatelaw01_RunesBack.l0 k a0 a1 t101 bt102.1 0 ([] : List Int) 0) else (some false))))
theorem cognatelaw01_RunesBack.mono_l : ∀ k, (∀ y0 y1 y2 y3 y4 y5 y6, LeO (cognatelaw01_RunesBack.l0 k y0 y1 y2 y3 y4 y5 y6) (cognatelaw01_RunesBack.l0 (k + 1) y0 y1 y2 y3 y4 y5 y6)) ∧ (∀ y0 y1 y2 y3 y4 y5 y6 y7 y8 y9 y10 y11, LeO (cognatelaw01_RunesBack.j1 k y0 y1 y2 y3 y4 y5 y6 y7 y8 y9 y10 y11) (cognatelaw01_RunesBack.j1 (k + 1) y0 y1 y2 y3 y4 y5 y6 y7 y8 y9 y10 y11)) ∧ (∀ y0 y1 y2, LeO (cognatelaw01_RunesBack.j2 k y0 y1 y2) (cognatelaw01_RunesBack.j2 (k + 1) y0 y1 y2))
  | 0 => ⟨fun _ _ _ _ _ _ _ r h => by simp [cognatelaw01_RunesBack.l0] at h, fun _ _ _ _ _ _ _ _ _ _ _ _ r h => by simp [cognatelaw01_RunesBack.j1] at h, fun _ _ _ r h => by simp [cognatelaw01_RunesBack.j2] at h⟩
  | k + 1 => by
    obtain ⟨ih0, ih1, ih2⟩ := cognatelaw01_RunesBack.mono_l k
    refine ⟨?_, ?_, ?_⟩
    · intro y0 y1 y2 y3 y4 y5 y6
      unfold cognatelaw01_RunesBack.l0
      repeat' first
      | (with_reducible exact ih0 _ _ _ _ _ _ _)
      | (with_reducible exact ih1 _ _ _ _ _ _ _ _ _ _ _ _)
      | (with_reducible exact ih2 _ _ _)
      | (with_reducible exact cognatelaw01_alive.mono _)
      | (with_reducible exact LeO.refl _)
      | (with_reducible exact LeO.none _)
      | (with_reducible refine LeO.ite ?_ ?_)
      | (with_reducible refine LeO.bind ?_ (fun _ => ?_))
      | exact ih0 _ _ _ _ _ _ _
      | exact ih1 _ _ _ _ _ _ _ _ _ _ _ _
      | exact ih2 _ _ _
      | exact cognatelaw01_alive.mono _
      | exact LeO.none _
      | refine LeO.ite ?_ ?_
      | refine LeO.bind ?_ (fun _ => ?_)
    · intro y0 y1 y2 y3 y4 y5 y6 y7 y8 y9 y10 y11
      unfold cognatelaw01_RunesBack.j1
      repeat' first
      | (with_reducible exact ih0 _ _ _ _ _ _ _)
      | (with_reducible exact ih1 _ _ _ _ _ _ _ _ _ _ _ _)
      | (with_reducible exact ih2 _ _ _)
      | (with_reducible exact cognatelaw01_alive.mono _)
      | (with_reducible exact LeO.refl _)
      | (with_reducible exact LeO.none _)
      | (with_reducible refine LeO.ite ?_ ?_)
      | (with_reducible refine LeO.bind ?_ (fun _ => ?_))
      | exact ih0 _ _ _ _ _ _ _
      | exact ih1 _ _ _ _ _ _ _ _ _ _ _ _
      | exact ih2 _ _ _
      | exact cognatelaw01_alive.mono _
      | exact LeO.none _
      | refine LeO.ite ?_ ?_
      | refine LeO.bind ?_ (fun _ => ?_)
    · intro y0 y1 y2
      unfold cognatelaw01_RunesBack.j2
      repeat' first
      | (with_reducible exact ih0 _ _ _ _ _ _ _)
      | (with_reducible exact ih1 _ _ _ _ _ _ _ _ _ _ _ _)
      | (with_reducible exact ih2 _ _ _)
      | (with_reducible exact cognatelaw01_alive.mono _)
      | (with_reducible exact LeO.refl _)
      | (with_reducible exact LeO.none _)
      | (with_reducible refine LeO.ite ?_ ?_)
      | (with_reducible refine LeO.bind ?_ (fun _ => ?_))
      | exact ih0 _ _ _ _ _ _ _
      | exact ih1 _ _ _ _ _ _ _ _ _ _ _ _
      | exact ih2 _ _ _
      | exact cognatelaw01_alive.mono _
      | exact LeO.none _
      | refine LeO.ite ?_ ?_
      | refine LeO.bind ?_ (fun _ => ?_)
theorem cognatelaw01_RunesBack.mono : ∀ a0 a1 k, LeO (cognatelaw01_RunesBack.f k a0 a1) (cognatelaw01_RunesBack.f (k + 1) a0 a1) := by
  intro a0 a1 k
  obtain ⟨ih0, ih1, ih2⟩ := cognatelaw01_RunesBack.mono_l k
  unfold cognatelaw01_RunesBack.f
  repeat' first
      | (with_reducible exact ih0 _ _ _ _ _ _ _)
      | (with_reducible exact ih1 _ _ _ _ _ _ _ _ _ _ _ _)
      | (with_reducible exact ih2 _ _ _)
      | (with_reducible exact cognatelaw01_alive.mono _)
      | (with_reducible exact LeO.refl _)
      | (with_reducible exact LeO.none _)
      | (with_reducible refine LeO.ite ?_ ?_)
      | (with_reducible refine LeO.bind ?_ (fun _ => ?_))
      | exact ih0 _ _ _ _ _ _ _
      | exact ih1 _ _ _ _ _ _ _ _ _ _ _ _
      | exact ih2 _ _ _
      | exact cognatelaw01_alive.mono _
      | exact LeO.none _
      | refine LeO.ite ?_ ?_
      | refine LeO.bind ?_ (fun _ => ?_)
set_option maxHeartbeats 8000000 in
set_option maxRecDepth 100000 in
theorem cognatelaw01_RunesBack.calls (k : Nat) (a0 : ByteArray) (a1 : Int) (r : Bool) (w : World) (hTU : TabU w) (hTN : TabN w) (h : cognatelaw01_RunesBack.f k a0 a1 = some r) :
    Calls Tryd.prog 6 #[.string a0, .int .i64 a1] w fun e w' => e = .returned (.bool r) ∧ Below w.heap.size w w' := by
  have hu35 := Tryd.underlying35
  have HB := Aside0.mk (Below.refl w.heap.size w)
  have H : ((cognatelaw01_alive.f k).bind fun t101 => (if (a0.size : Int) > 5000 then (some t101) else ((runes_Pieces.f a0).bind fun bt102 => (if bt102.2 = 0 then (cognatelaw01_RunesBack.l0 k a0 a1 t101 bt102.1 0 ([] : List Int) 0) else (some false))))) = some r := h
  clear h
  have HTU := Aside0.mk hTU
  clear hTU
  have HTN := Aside0.mk hTN
  clear hTN
  replace H := Option.bind_eq_some_iff.mp H
  obtain ⟨t101, A30, H⟩ := H
  replace H : (if (a0.size : Int) > 5000 then (some t101) else ((runes_Pieces.f a0).bind fun bt102 => (if bt102.2 = 0 then (cognatelaw01_RunesBack.l0 k a0 a1 t101 bt102.1 0 ([] : List Int) 0) else (some false)))) = some r := H
  have A3 := Aside0.mk A30
  clear A30
  by_cases c4 : (a0.size : Int) > 5000
  · rw [if_pos c4] at H
    have c4b0 : decide (5000 < (a0.size : Int)) = true := decide_eq_true c4
    have c4b1 : decide (5000 < a0.size) = true := decide_eq_true (by omega)
    clear c4
    obtain rfl := Option.some.inj H
    go_enter Tryd.func6, Tryd.ntmps6
    go_wp2_with (first | ((with_reducible refine gate_callee (f := 24) rfl ?_); refine goesL_ (some 28) rfl rfl Tryd.func24 (by kernel_rfl) rfl #[] rfl (by (try simp only [List.map_toArray, List.map_cons, List.map_nil]); first | done | rfl | (simp only [List.length_drop, List.length_take]; rfl)) ?_; (with_reducible refine (cognatelaw01_alive.calls k  t101 _ ?side1 ?side2 A3.out).mono ?_); (case side1 => exact TabU.below HTU.out (by repeat (first | (with_reducible first | exact HB.out | apply below_alloc | apply pw_below_drewN | apply below_drew1) | exact HB.out))); (case side2 => exact TabN.below HTN.out (by repeat (first | (with_reducible first | exact HB.out | apply below_alloc | apply pw_below_drewN | apply below_drew1) | exact HB.out))); rintro e w5 ⟨rfl, hb⟩; refine ⟨_, rfl, ?_⟩; have n0_ := Aside0.mk (below_step (by repeat (first | (with_reducible first | exact HB.out | apply below_alloc | apply pw_below_drewN | apply below_drew1) | exact HB.out)) hb); clear HB; have HB := n0_; clear n0_; (try clear hb); (try clear hb2); (try clear hk); (try clear hi)))
    go_ret
    exact ⟨by first | rfl | (simp [errW_none, errW_some] <;> rfl) | (simp [*, errW_none, errW_some] <;> rfl), by repeat (first | (with_reducible first | exact HB.out | apply below_alloc | apply pw_below_drewN | apply below_drew1) | exact HB.out)⟩
  · rw [if_neg c4] at H
    have c4b0 : decide (5000 < (a0.size : Int)) = false := decide_eq_false c4
    have c4b1 : decide (5000 < a0.size) = false := decide_eq_false (by omega)
    clear c4
    replace H := Option.bind_eq_some_iff.mp H
    obtain ⟨⟨t102, t103⟩, A60, H⟩ := H
    replace H : (if t103 = 0 then (cognatelaw01_RunesBack.l0 k a0 a1 t101 t102 0 ([] : List Int) 0) else (some false)) = some r := H
    have A6 := Aside0.mk A60
    clear A60
    by_cases c7 : t103 = 0
    · rw [if_pos c7] at H
      have c7b0 : (t103 == 0) = true := beq_iff_eq.mpr c7
      have c7b1 : (t103 != 0) = false := bne_eq_false_iff_eq.mpr c7
      clear c7
      have H' := Aside0.mk H
      clear H
      go_enter Tryd.func6, Tryd.ntmps6
      go_wp2_with (first | ((with_reducible refine gate_callee (f := 24) rfl ?_); refine goesL_ (some 28) rfl rfl Tryd.func24 (by kernel_rfl) rfl #[] rfl (by (try simp only [List.map_toArray, List.map_cons, List.map_nil]); first | done | rfl | (simp only [List.length_drop, List.length_take]; rfl)) ?_; (with_reducible refine (cognatelaw01_alive.calls k  t101 _ ?side1 ?side2 A3.out).mono ?_); (case side1 => exact TabU.below HTU.out (by repeat (first | (with_reducible first | exact HB.out | apply below_alloc | apply pw_below_drewN | apply below_drew1) | exact HB.out))); (case side2 => exact TabN.below HTN.out (by repeat (first | (with_reducible first | exact HB.out | apply below_alloc | apply pw_below_drewN | apply below_drew1) | exact HB.out))); rintro e w8 ⟨rfl, hb⟩; refine ⟨_, rfl, ?_⟩; have n0_ := Aside0.mk (below_step (by repeat (first | (with_reducible first | exact HB.out | apply below_alloc | apply pw_below_drewN | apply below_drew1) | exact HB.out)) hb); clear HB; have HB := n0_; clear n0_; (try clear hb); (try clear hb2); (try clear hk); (try clear hi)) | ((with_reducible refine gate_callee (f := 13) rfl ?_); refine goesL_ (some 35) rfl rfl Tryd.func13 (by kernel_rfl) rfl #[.string a0] rfl (by (try simp only [List.map_toArray, List.map_cons, List.map_nil]); first | done | rfl | (simp only [List.length_drop, List.length_take]; rfl)) ?_; (with_reducible refine (runes_Pieces.calls a0 t102 t103 _ ?side1 A6.out).mono ?_); (case side1 => exact TabU.below HTU.out (by repeat (first | (with_reducible first | exact HB.out | apply below_alloc | apply pw_below_drewN | apply below_drew1) | exact HB.out))); rintro e w9 ⟨v104, rfl, ho0, hb⟩; refine ⟨_, rfl, ?_⟩; have n0_ := Aside0.mk (Kd.R_lower ho0 (below_size (by repeat (first | (with_reducible first | exact HB.out | apply below_alloc | apply pw_below_drewN | apply below_drew1) | exact HB.out)))); have n1_ := Aside0.mk (below_step (by repeat (first | (with_reducible first | exact HB.out | apply below_alloc | apply pw_below_drewN | apply below_drew1) | exact HB.out)) hb); clear HB; have HO105 := n0_; have HB := n1_; clear n0_ n1_; (try clear hb); (try clear hb2); (try clear hk); (try clear hi); (try clear ho0)))
      go_loopg [8, 9, 10] k (fun kq v8 v9 v10 w' => ∃ (x8_1 : Int) (x9_1 : List Int) (x10_1 : Int), v8 = .int .i64 x8_1 ∧ v10 = .int .i64 x10_1 ∧ Aside0 (cognatelaw01_RunesBack.l0 kq a0 a1 t101 t102 x8_1 x9_1 x10_1 = some r) ∧ Aside0 (kq ≤ k) ∧ Aside0 (Kd.R k35 35 w' w.heap.size (fun _ => True) v104 t102) ∧ Aside0 (Kd.R (Kd.int .i32) 21 w' w.heap.size (fun _ => True) v9 x9_1) ∧ Aside0 (Below w.heap.size w w'))
      case atStart => exact ⟨(0), (([] : List Int)), (0), (by first | rfl | (simp; done) | (simp [*]; done)), (by first | rfl | (simp; done) | (simp [*]; done)), H', ⟨Nat.le_refl _⟩, ⟨by (with_reducible repeat (first | apply Kd.R_alloc | apply Kd.R_drewN | apply Kd.R_drew)); exact HO105.out⟩, ⟨by first | exact Kd.R_nil _ _ _ _ _ | exact Kd.N_nil _ _ _ _ _ | exact Kd.V_nil _ _ _ _ _ | exact Kd.Q_nil _ _ _ _ _ | exact Kd.S_nil _ _ _ _ _⟩, ⟨by repeat (first | (with_reducible first | exact HB.out | apply below_alloc | apply pw_below_drewN | apply below_drew1) | exact HB.out)⟩⟩
      case round =>
        clear H'
        try clear c1
        try clear c2
        try clear p2
        try clear c4
        try clear c4b0
        try clear c4b1
        try clear c6
        try clear c7
        try clear c7b0
        try clear c7b1
        obtain ⟨x8_1, x9_1, x10_1, rfl, rfl, HA, HK1, HO_6, HO_9, HB⟩ := hrel
        cases gk with
        | zero => exact absurd HA.out (by simp [cognatelaw01_RunesBack.l0])
        | succ k1 =>
          have H := HA.out
          clear HA
          simp only [cognatelaw01_RunesBack.l0] at H
          by_cases c10 : x10_1 < (t102.length : Int)
          · rw [if_pos c10] at H
            have c10b0 : decide (x10_1 < (t102.length : Int)) = true := decide_eq_true c10
            clear c10
            by_cases c11 : 0 ≤ x10_1
            · rw [if_pos c11] at H
              have c11b0 : decide (0 ≤ x10_1) = true := decide_eq_true c11
              clear c11
              have HC12 := Aside0.mk H
              clear H
              obtain ⟨Ao13, co13, eo13⟩ := Kd.R_slice HO_6.out
              subst eo13
              have p106 : 0 ≤ (x10_1 : Int) := of_decide_eq_true (by first | (with_reducible assumption) | assumption)
              have q106 : x10_1 < (t102.length : Int) := of_decide_eq_true (by first | (with_reducible assumption) | assumption)
              obtain ⟨ad106, e106, hx106_0, hx106_1, hx106_2, hx106_3⟩ := at_T35 (Kd.R_reads' HO_6.out).2.2 x10_1 p106 q106
              cases e106
              replace p106 := eq_true p106
              replace q106 := eq_true q106
              go_upto_region 13 with (first | ((with_reducible refine gate_dst (N := 11) rfl ?_); (try (refine gate_guard (by rfl) ?_; dsimp only)); refine box_event ?hg (N := 11) ?hd (cs := #[.int .i32 0, .int .i64 0, .int .i64 0, .bool false]) (t := 35) ?hr ?_; (case hd => rfl); (case hg => rfl); (case hr => first | (go_simp; done) | (go_simp; rfl)); intro gb107 hg w14 hbox hb; have n0_ := Aside0.mk (Kd.R_below (Kd.R_elderB (by (with_reducible repeat (first | apply Kd.R_alloc | apply Kd.R_drewN | apply Kd.R_drew)); exact HO_6.out) gb107 (Nat.le_of_eq hg.symm)) hb); have n1_ := Aside0.mk (Kd.R_below (by (with_reducible repeat (first | apply Kd.R_alloc | apply Kd.R_drewN | apply Kd.R_drew)); exact HO_9.out) hb); have n2_ := Aside0.mk (below_step (by repeat (first | (with_reducible first | exact HB.out | apply below_alloc | apply pw_below_drewN | apply below_drew1) | exact HB.out)) hb); have n3_ := Aside0.mk (hbox); have n4_ := Aside0.mk ((by rw [hg]; exact (below_size (by repeat (first | (with_reducible first | exact HB.out | apply below_alloc | apply pw_below_drewN | apply below_drew1) | exact HB.out))) : w.heap.size ≤ gb107)); have n5_ := Aside0.mk ((by rw [hg]; exact (below_size (by repeat (first | (with_reducible first | exact HB.out | apply below_alloc | apply pw_below_drewN | apply below_drew1) | exact HB.out))) : w.heap.size ≤ gb107)); clear HO_6; clear HO_9; clear HB; have HO_6 := n0_; have HO_9 := n1_; have HB := n2_; have BK107 := n3_; have GW107 := n4_; have GE107 := n5_; clear n0_ n1_ n2_ n3_ n4_ n5_; clear hb hbox hg; have hcz15_0 : w14.cell? ⟨gb107, 0, none⟩ = some (.int .i32 0) := (blk_cell BK107.out 0).trans rfl; have hcz15_1 : w14.cell? ⟨gb107, 1, none⟩ = some (.int .i64 0) := (blk_cell BK107.out 1).trans rfl; have hcz15_2 : w14.cell? ⟨gb107, 2, none⟩ = some (.int .i64 0) := (blk_cell BK107.out 2).trans rfl; have hcz15_3 : w14.cell? ⟨gb107, 3, none⟩ = some (.bool false) := (blk_cell BK107.out 3).trans rfl; have hfz15_0 := blk_frozen BK107.out 0; have hfz15_1 := blk_frozen BK107.out 1; have hfz15_2 := blk_frozen BK107.out 2; have hfz15_3 := blk_frozen BK107.out 3))
              (try simp only [Act.put, List.setIfInBounds_toArray, List.set_cons_zero, List.set_cons_succ])
              go_cut [67] (fun v67 wc => ∃ (kq : Nat) (x67_11 : Bool), v67 = .bool x67_11 ∧ Aside0 (cognatelaw01_RunesBack.j1 kq a0 a1 t101 t102 x8_1 x9_1 x10_1 x67_11 ((rd_T35 t102 x10_1).f0) ((rd_T35 t102 x10_1).f1) ((rd_T35 t102 x10_1).f2) ((rd_T35 t102 x10_1).f3) = some r) ∧ Aside0 (kq ≤ k1) ∧ Aside0 (Kd.R k35 35 wc w.heap.size (fun k_ => k_ ≠ gb107) (.slice (some ad106) t102.length co13) t102) ∧ Aside0 (Kd.R (Kd.int .i32) 21 wc w.heap.size (fun _ => True) u9 x9_1) ∧ Aside0 (wc.heap[gb107]? = some (.cells #[.int .i32 ((rd_T35 t102 x10_1).f0), .int .i64 ((rd_T35 t102 x10_1).f1), .int .i64 ((rd_T35 t102 x10_1).f2), .bool ((rd_T35 t102 x10_1).f3)] 35 (0, 0))) ∧ Aside0 (Below w.heap.size w wc))
              case first =>
                have H := HC12.out
                clear HC12
                by_cases c16 : ((rd_T35 t102 x10_1).f1) = x8_1
                · rw [if_pos c16] at H
                  have c16b0 : (((rd_T35 t102 x10_1).f1) == x8_1) = true := beq_iff_eq.mpr c16
                  have c16b1 : (((rd_T35 t102 x10_1).f1) != x8_1) = false := bne_eq_false_iff_eq.mpr c16
                  clear c16
                  (first | rw [c16b0] | (simp only [i64_w, i32_w]; rw [c16b0]) | skip)
                  by_cases c17 : ((rd_T35 t102 x10_1).f2) < 1
                  · rw [if_pos c17] at H
                    have c17b0 : decide (((rd_T35 t102 x10_1).f2) < 1) = true := decide_eq_true c17
                    clear c17
                    have H' := Aside0.mk H
                    clear H
                    have hcz18_0 : w14.cell? ⟨gb107, 0, none⟩ = some (.int .i32 0) := (blk_cell BK107.out 0).trans rfl
                    have hcz18_1 : w14.cell? ⟨gb107, 1, none⟩ = some (.int .i64 0) := (blk_cell BK107.out 1).trans rfl
                    have hcz18_2 : w14.cell? ⟨gb107, 2, none⟩ = some (.int .i64 0) := (blk_cell BK107.out 2).trans rfl
                    have hcz18_3 : w14.cell? ⟨gb107, 3, none⟩ = some (.bool false) := (blk_cell BK107.out 3).trans rfl
                    have hfz18_0 := blk_frozen BK107.out 0
                    have hfz18_1 := blk_frozen BK107.out 1
                    have hfz18_2 := blk_frozen BK107.out 2
                    have hfz18_3 := blk_frozen BK107.out 3
                    go_wp2
                    go_meet
                    case rel => exact ⟨_, (true), (by first | rfl | (simp; done) | (simp [*]; done)), H', ⟨by have := HK1.out; first | omega | exact Nat.le_refl _⟩, ⟨by (with_reducible repeat (first | apply Kd.R_alloc | apply Kd.R_drewN | apply Kd.R_drew)); exact Kd.R_mono (Kd.R_far (p := ⟨gb107, 3, none⟩) (Kd.R_far (p := ⟨gb107, 2, none⟩) (Kd.R_far (p := ⟨gb107, 1, none⟩) (Kd.R_far (p := ⟨gb107, 0, none⟩) (Kd.R_mono HO_6.out (fun k_ hk => (⟨hk, hk.2⟩ : _ ∧ k_ ≠ gb107))) (fun _ hk => hk.2) (.int .i32 ((rd_T35 t102 x10_1).f0))) (fun _ hk => hk.2) (.int .i64 ((rd_T35 t102 x10_1).f1))) (fun _ hk => hk.2) (.int .i64 ((rd_T35 t102 x10_1).f2))) (fun _ hk => hk.2) (.bool ((rd_T35 t102 x10_1).f3))) (fun _ hk => hk.1.2)⟩, ⟨by (with_reducible repeat (first | apply Kd.R_alloc | apply Kd.R_drewN | apply Kd.R_drew)); exact Kd.R_mono (Kd.R_far (p := ⟨gb107, 3, none⟩) (Kd.R_far (p := ⟨gb107, 2, none⟩) (Kd.R_far (p := ⟨gb107, 1, none⟩) (Kd.R_far (p := ⟨gb107, 0, none⟩) (Kd.R_types HO_9.out BK107.out (by decide)) (fun _ hk => hk.2) (.int .i32 ((rd_T35 t102 x10_1).f0))) (fun _ hk => hk.2) (.int .i64 ((rd_T35 t102 x10_1).f1))) (fun _ hk => hk.2) (.int .i64 ((rd_T35 t102 x10_1).f2))) (fun _ hk => hk.2) (.bool ((rd_T35 t102 x10_1).f3))) (fun _ hk => trivial)⟩, ⟨by (with_reducible repeat (first | refine blk_drewN ?_ _ | refine blk_drew ?_ | refine blk_alloc ?_ _)); refine blk_put (cs := #[.int .i32 ((rd_T35 t102 x10_1).f0), .int .i64 ((rd_T35 t102 x10_1).f1), .int .i64 ((rd_T35 t102 x10_1).f2), .bool false]) ?_ 3 _ rfl; (with_reducible repeat (first | refine blk_drewN ?_ _ | refine blk_drew ?_ | refine blk_alloc ?_ _)); refine blk_put (cs := #[.int .i32 ((rd_T35 t102 x10_1).f0), .int .i64 ((rd_T35 t102 x10_1).f1), .int .i64 0, .bool false]) ?_ 2 _ rfl; (with_reducible repeat (first | refine blk_drewN ?_ _ | refine blk_drew ?_ | refine blk_alloc ?_ _)); refine blk_put (cs := #[.int .i32 ((rd_T35 t102 x10_1).f0), .int .i64 0, .int .i64 0, .bool false]) ?_ 1 _ rfl; (with_reducible repeat (first | refine blk_drewN ?_ _ | refine blk_drew ?_ | refine blk_alloc ?_ _)); refine blk_put (cs := #[.int .i32 0, .int .i64 0, .int .i64 0, .bool false]) ?_ 0 _ rfl; (with_reducible repeat (first | refine blk_drewN ?_ _ | refine blk_drew ?_ | refine blk_alloc ?_ _)); exact BK107.out⟩, ⟨by repeat (first | (with_reducible first | exact HB.out | apply below_alloc | apply pw_below_drewN | apply below_drew1 | refine below_set ?_ GE107.out) | exact HB.out)⟩⟩
                  · rw [if_neg c17] at H
                    have c17b0 : decide (((rd_T35 t102 x10_1).f2) < 1) = false := decide_eq_false c17
                    clear c17
                    have H' := Aside0.mk H
                    clear H
                    have hcz19_0 : w14.cell? ⟨gb107, 0, none⟩ = some (.int .i32 0) := (blk_cell BK107.out 0).trans rfl
                    have hcz19_1 : w14.cell? ⟨gb107, 1, none⟩ = some (.int .i64 0) := (blk_cell BK107.out 1).trans rfl
                    have hcz19_2 : w14.cell? ⟨gb107, 2, none⟩ = some (.int .i64 0) := (blk_cell BK107.out 2).trans rfl
                    have hcz19_3 : w14.cell? ⟨gb107, 3, none⟩ = some (.bool false) := (blk_cell BK107.out 3).trans rfl
                    have hfz19_0 := blk_frozen BK107.out 0
                    have hfz19_1 := blk_frozen BK107.out 1
                    have hfz19_2 := blk_frozen BK107.out 2
                    have hfz19_3 := blk_frozen BK107.out 3
                    go_wp2
                    go_meet
                    case rel => exact ⟨_, (decide ((wrap64 (x8_1 + ((rd_T35 t102 x10_1).f2))) > (a0.size : Int))), (by first | rfl | (simp; done) | (simp [*]; done)), H', ⟨by have := HK1.out; first | omega | exact Nat.le_refl _⟩, ⟨by (with_reducible repeat (first | apply Kd.R_alloc | apply Kd.R_drewN | apply Kd.R_drew)); exact Kd.R_mono (Kd.R_far (p := ⟨gb107, 3, none⟩) (Kd.R_far (p := ⟨gb107, 2, none⟩) (Kd.R_far (p := ⟨gb107, 1, none⟩) (Kd.R_far (p := ⟨gb107, 0, none⟩) (Kd.R_mono HO_6.out (fun k_ hk => (⟨hk, hk.2⟩ : _ ∧ k_ ≠ gb107))) (fun _ hk => hk.2) (.int .i32 ((rd_T35 t102 x10_1).f0))) (fun _ hk => hk.2) (.int .i64 ((rd_T35 t102 x10_1).f1))) (fun _ hk => hk.2) (.int .i64 ((rd_T35 t102 x10_1).f2))) (fun _ hk => hk.2) (.bool ((rd_T35 t102 x10_1).f3))) (fun _ hk => hk.1.2)⟩, ⟨by (with_reducible repeat (first | apply Kd.R_alloc | apply Kd.R_drewN | apply Kd.R_drew)); exact Kd.R_mono (Kd.R_far (p := ⟨gb107, 3, none⟩) (Kd.R_far (p := ⟨gb107, 2, none⟩) (Kd.R_far (p := ⟨gb107, 1, none⟩) (Kd.R_far (p := ⟨gb107, 0, none⟩) (Kd.R_types HO_9.out BK107.out (by decide)) (fun _ hk => hk.2) (.int .i32 ((rd_T35 t102 x10_1).f0))) (fun _ hk => hk.2) (.int .i64 ((rd_T35 t102 x10_1).f1))) (fun _ hk => hk.2) (.int .i64 ((rd_T35 t102 x10_1).f2))) (fun _ hk => hk.2) (.bool ((rd_T35 t102 x10_1).f3))) (fun _ hk => trivial)⟩, ⟨by (with_reducible repeat (first | refine blk_drewN ?_ _ | refine blk_drew ?_ | refine blk_alloc ?_ _)); refine blk_put (cs := #[.int .i32 ((rd_T35 t102 x10_1).f0), .int .i64 ((rd_T35 t102 x10_1).f1), .int .i64 ((rd_T35 t102 x10_1).f2), .bool false]) ?_ 3 _ rfl; (with_reducible repeat (first | refine blk_drewN ?_ _ | refine blk_drew ?_ | refine blk_alloc ?_ _)); refine blk_put (cs := #[.int .i32 ((rd_T35 t102 x10_1).f0), .int .i64 ((rd_T35 t102 x10_1).f1), .int .i64 0, .bool false]) ?_ 2 _ rfl; (with_reducible repeat (first | refine blk_drewN ?_ _ | refine blk_drew ?_ | refine blk_alloc ?_ _)); refine blk_put (cs := #[.int .i32 ((rd_T35 t102 x10_1).f0), .int .i64 0, .int .i64 0, .bool false]) ?_ 1 _ rfl; (with_reducible repeat (first | refine blk_drewN ?_ _ | refine blk_drew ?_ | refine blk_alloc ?_ _)); refine blk_put (cs := #[.int .i32 0, .int .i64 0, .int .i64 0, .bool false]) ?_ 0 _ rfl; (with_reducible repeat (first | refine blk_drewN ?_ _ | refine blk_drew ?_ | refine blk_alloc ?_ _)); exact BK107.out⟩, ⟨by repeat (first | (with_reducible first | exact HB.out | apply below_alloc | apply pw_below_drewN | apply below_drew1 | refine below_set ?_ GE107.out) | exact HB.out)⟩⟩
                · rw [if_neg c16] at H
                  have c16b0 : (((rd_T35 t102 x10_1).f1) == x8_1) = false := beq_eq_false_iff_ne.mpr c16
                  have c16b1 : (((rd_T35 t102 x10_1).f1) != x8_1) = true := bne_iff_ne.mpr c16
                  (first | rw [c16b0] | (simp only [i64_w, i32_w]; rw [c16b0]) | skip)
                  have H' := Aside0.mk H
                  clear H
                  have hcz20_0 : w14.cell? ⟨gb107, 0, none⟩ = some (.int .i32 0) := (blk_cell BK107.out 0).trans rfl
                  have hcz20_1 : w14.cell? ⟨gb107, 1, none⟩ = some (.int .i64 0) := (blk_cell BK107.out 1).trans rfl
                  have hcz20_2 : w14.cell? ⟨gb107, 2, none⟩ = some (.int .i64 0) := (blk_cell BK107.out 2).trans rfl
                  have hcz20_3 : w14.cell? ⟨gb107, 3, none⟩ = some (.bool false) := (blk_cell BK107.out 3).trans rfl
                  have hfz20_0 := blk_frozen BK107.out 0
                  have hfz20_1 := blk_frozen BK107.out 1
                  have hfz20_2 := blk_frozen BK107.out 2
                  have hfz20_3 := blk_frozen BK107.out 3
                  go_wp2
                  go_meet
                  case rel => exact ⟨_, (true), (by first | rfl | (simp; done) | (simp [*]; done)), H', ⟨by have := HK1.out; first | omega | exact Nat.le_refl _⟩, ⟨by (with_reducible repeat (first | apply Kd.R_alloc | apply Kd.R_drewN | apply Kd.R_drew)); exact Kd.R_mono (Kd.R_far (p := ⟨gb107, 3, none⟩) (Kd.R_far (p := ⟨gb107, 2, none⟩) (Kd.R_far (p := ⟨gb107, 1, none⟩) (Kd.R_far (p := ⟨gb107, 0, none⟩) (Kd.R_mono HO_6.out (fun k_ hk => (⟨hk, hk.2⟩ : _ ∧ k_ ≠ gb107))) (fun _ hk => hk.2) (.int .i32 ((rd_T35 t102 x10_1).f0))) (fun _ hk => hk.2) (.int .i64 ((rd_T35 t102 x10_1).f1))) (fun _ hk => hk.2) (.int .i64 ((rd_T35 t102 x10_1).f2))) (fun _ hk => hk.2) (.bool ((rd_T35 t102 x10_1).f3))) (fun _ hk => hk.1.2)⟩, ⟨by (with_reducible repeat (first | apply Kd.R_alloc | apply Kd.R_drewN | apply Kd.R_drew)); exact Kd.R_mono (Kd.R_far (p := ⟨gb107, 3, none⟩) (Kd.R_far (p := ⟨gb107, 2, none⟩) (Kd.R_far (p := ⟨gb107, 1, none⟩) (Kd.R_far (p := ⟨gb107, 0, none⟩) (Kd.R_types HO_9.out BK107.out (by decide)) (fun _ hk => hk.2) (.int .i32 ((rd_T35 t102 x10_1).f0))) (fun _ hk => hk.2) (.int .i64 ((rd_T35 t102 x10_1).f1))) (fun _ hk => hk.2) (.int .i64 ((rd_T35 t102 x10_1).f2))) (fun _ hk => hk.2) (.bool ((rd_T35 t102 x10_1).f3))) (fun _ hk => trivial)⟩, ⟨by (with_reducible repeat (first | refine blk_drewN ?_ _ | refine blk_drew ?_ | refine blk_alloc ?_ _)); refine blk_put (cs := #[.int .i32 ((rd_T35 t102 x10_1).f0), .int .i64 ((rd_T35 t102 x10_1).f1), .int .i64 ((rd_T35 t102 x10_1).f2), .bool false]) ?_ 3 _ rfl; (with_reducible repeat (first | refine blk_drewN ?_ _ | refine blk_drew ?_ | refine blk_alloc ?_ _)); refine blk_put (cs := #[.int .i32 ((rd_T35 t102 x10_1).f0), .int .i64 ((rd_T35 t102 x10_1).f1), .int .i64 0, .bool false]) ?_ 2 _ rfl; (with_reducible repeat (first | refine blk_drewN ?_ _ | refine blk_drew ?_ | refine blk_alloc ?_ _)); refine blk_put (cs := #[.int .i32 ((rd_T35 t102 x10_1).f0), .int .i64 0, .int .i64 0, .bool false]) ?_ 1 _ rfl; (with_reducible repeat (first | refine blk_drewN ?_ _ | refine blk_drew ?_ | refine blk_alloc ?_ _)); refine blk_put (cs := #[.int .i32 0, .int .i64 0, .int .i64 0, .bool false]) ?_ 0 _ rfl; (with_reducible repeat (first | refine blk_drewN ?_ _ | refine blk_drew ?_ | refine blk_alloc ?_ _)); exact BK107.out⟩, ⟨by repeat (first | (with_reducible first | exact HB.out | apply below_alloc | apply pw_below_drewN | apply below_drew1 | refine below_set ?_ GE107.out) | exact HB.out)⟩⟩
              case rest =>
                clear HC12
                try clear c1
                try clear p1
                try clear q1
                try clear hx1
                try clear c2
                try clear p2
                try clear c4
                try clear c4b0
                try clear c4b1
                try clear c6
                try clear p6
                try clear c7
                try clear c7b0
                try clear c7b1
                try clear c10
                try clear c10b0
                try clear p10
                try clear q10
                try clear hx10
                try clear c11
                try clear c11b0
                try clear c13
                try clear c16
                try clear c16b0
                try clear c16b1
                try clear c17
                try clear c17b0
                try clear hcz15_0
                try clear hcz15_1
                try clear hcz15_2
                try clear hcz15_3
                try clear hcz18_0
                try clear hcz18_1
                try clear hcz18_2
                try clear hcz18_3
                try clear hcz19_0
                try clear hcz19_1
                try clear hcz19_2
                try clear hcz19_3
                try clear hcz20_0
                try clear hcz20_1
                try clear hcz20_2
                try clear hcz20_3
                try clear hfz15_0
                try clear hfz15_1
                try clear hfz15_2
                try clear hfz15_3
                try clear hfz18_0
                try clear hfz18_1
                try clear hfz18_2
                try clear hfz18_3
                try clear hfz19_0
                try clear hfz19_1
                try clear hfz19_2
                try clear hfz19_3
                try clear hfz20_0
                try clear hfz20_1
                try clear hfz20_2
                try clear hfz20_3
                try clear hx106_0
                try clear hx106_1
                try clear hx106_2
                try clear hx106_3
                try clear p106
                try clear p2
                try clear q106
                obtain ⟨kq, x67_11, rfl, HA, HJ11, HO_6, HO_9, BK107, HB⟩ := hcut
                cases kq with
                | zero => exact absurd HA.out (by simp [cognatelaw01_RunesBack.j1])
                | succ kj11 =>
                  have H := HA.out
                  clear HA
                  simp only [cognatelaw01_RunesBack.j1] at H
                  by_cases c21 : x67_11 = true
                  · subst c21
                    have H1 : (some false) = some r := by rw [if_pos rfl] at H; exact H
                    clear H
                    have H := H1
                    clear H1
                    obtain rfl := Option.some.inj H
                    go_wp2
                    go_ret
                    exact ⟨by first | rfl | (simp [errW_none, errW_some] <;> rfl) | (simp [*, errW_none, errW_some] <;> rfl), by repeat (first | (with_reducible first | exact HB.out | apply below_alloc | apply pw_below_drewN | apply below_drew1 | refine below_set ?_ GE107.out) | exact HB.out)⟩
                  · replace c21 := Bool.eq_false_iff.mpr c21
                    subst c21
                    have H1 : (if 0 ≤ x8_1 then (if x8_1 ≤ (a0.size : Int) then ((utf8_DecodeRuneInString.f (a0.extract (x8_1 : Int).toNat a0.size)).bind fun bt108 => (if ((rd_T35 t102 x10_1).f0) = bt108.1 then (if ((rd_T35 t102 x10_1).f2) = bt108.2 then (if bt108.1 = 65533 then (if (((rd_T35 t102 x10_1).f3) != (bt108.2 == 1)) = true then (some false) else (if x9_1.length < 35184372088832 then (cognatelaw01_RunesBack.l0 kj11 a0 a1 t101 t102 (wrap64 (x8_1 + bt108.2)) (x9_1 ++ [bt108.1]) (wrap64 (x10_1 + 1))) else (none))) else (if (((rd_T35 t102 x10_1).f3) != false) = true then (some false) else (if x9_1.length < 35184372088832 then (cognatelaw01_RunesBack.l0 kj11 a0 a1 t101 t102 (wrap64 (x8_1 + bt108.2)) (x9_1 ++ [bt108.1]) (wrap64 (x10_1 + 1))) else (none)))) else (some false)) else (some false))) else (none)) else (none)) = some r := by rw [if_neg (show ¬ (false = true) by decide)] at H; exact H
                    clear H
                    have H := H1
                    clear H1
                    by_cases c22 : 0 ≤ x8_1
                    · rw [if_pos c22] at H
                      have c22b0 := eq_true c22
                      have c22b1 : decide (0 ≤ x8_1) = true := decide_eq_true c22
                      clear c22
                      by_cases c23 : x8_1 ≤ (a0.size : Int)
                      · rw [if_pos c23] at H
                        have c23b0 := eq_true c23
                        have c23b1 : decide (x8_1 ≤ (a0.size : Int)) = true := decide_eq_true c23
                        clear c23
                        replace H := Option.bind_eq_some_iff.mp H
                        obtain ⟨⟨t108, t109⟩, A240, H⟩ := H
                        replace H : (if ((rd_T35 t102 x10_1).f0) = t108 then (if ((rd_T35 t102 x10_1).f2) = t109 then (if t108 = 65533 then (if (((rd_T35 t102 x10_1).f3) != (t109 == 1)) = true then (some false) else (if x9_1.length < 35184372088832 then (cognatelaw01_RunesBack.l0 kj11 a0 a1 t101 t102 (wrap64 (x8_1 + t109)) (x9_1 ++ [t108]) (wrap64 (x10_1 + 1))) else (none))) else (if (((rd_T35 t102 x10_1).f3) != false) = true then (some false) else (if x9_1.length < 35184372088832 then (cognatelaw01_RunesBack.l0 kj11 a0 a1 t101 t102 (wrap64 (x8_1 + t109)) (x9_1 ++ [t108]) (wrap64 (x10_1 + 1))) else (none)))) else (some false)) else (some false)) = some r := H
                        have A24 := Aside0.mk A240
                        clear A240
                        by_cases c25 : ((rd_T35 t102 x10_1).f0) = t108
                        · rw [if_pos c25] at H
                          have c25b0 : (((rd_T35 t102 x10_1).f0) == t108) = true := beq_iff_eq.mpr c25
                          have c25b1 : (((rd_T35 t102 x10_1).f0) != t108) = false := bne_eq_false_iff_eq.mpr c25
                          clear c25
                          by_cases c26 : ((rd_T35 t102 x10_1).f2) = t109
                          · rw [if_pos c26] at H
                            have c26b0 : (((rd_T35 t102 x10_1).f2) == t109) = true := beq_iff_eq.mpr c26
                            have c26b1 : (((rd_T35 t102 x10_1).f2) != t109) = false := bne_eq_false_iff_eq.mpr c26
                            clear c26
                            by_cases c27 : t108 = 65533
                            · rw [if_pos c27] at H
                              have c27b0 : (t108 == 65533) = true := beq_iff_eq.mpr c27
                              have c27b1 : (t108 != 65533) = false := bne_eq_false_iff_eq.mpr c27
                              clear c27
                              by_cases c28 : (((rd_T35 t102 x10_1).f3) != (t109 == 1)) = true
                              · rw [if_pos c28] at H
                                have c28b0 : (((rd_T35 t102 x10_1).f3) != (t109 == 1)) = true := c28
                                (try (have c28b1 : decide (((rd_T35 t102 x10_1).f3) = (t109 == 1)) = false := by simpa using c28))
                                (try (have c28b2 : (((rd_T35 t102 x10_1).f3) == (t109 == 1)) = false := by simpa using c28))
                                (try (have c28b3 : ¬ (((rd_T35 t102 x10_1).f3) = (t109 == 1)) := by simpa using c28))
                                clear c28
                                obtain rfl := Option.some.inj H
                                go_wp2_with (first | ((with_reducible refine gate_callee (f := 25) rfl ?_); refine goesL_ (some 72) rfl rfl Tryd.func25 (by kernel_rfl) rfl #[.string (a0.extract (x8_1 : Int).toNat a0.size)] rfl (by (try simp only [List.map_toArray, List.map_cons, List.map_nil]); first | done | rfl | (simp only [List.length_drop, List.length_take]; rfl)) ?_; (with_reducible refine (utf8_DecodeRuneInString.calls (a0.extract (x8_1 : Int).toNat a0.size) t108 t109 _ ?side1 A24.out).mono ?_); (case side1 => exact TabU.below HTU.out (by repeat (first | (with_reducible first | exact HB.out | apply below_alloc | apply pw_below_drewN | apply below_drew1 | refine below_set ?_ GE107.out) | exact HB.out))); rintro e w29 ⟨rfl, hb⟩; refine ⟨_, rfl, ?_⟩; have n0_ := Aside0.mk (Kd.R_below (by (with_reducible repeat (first | apply Kd.R_alloc | apply Kd.R_drewN | apply Kd.R_drew)); exact HO_6.out) hb); have n1_ := Aside0.mk (Kd.R_below (by (with_reducible repeat (first | apply Kd.R_alloc | apply Kd.R_drewN | apply Kd.R_drew)); exact HO_9.out) hb); have n2_ := Aside0.mk (blk_below (g := gb107) (o := .cells #[.int .i32 ((rd_T35 t102 x10_1).f0), .int .i64 ((rd_T35 t102 x10_1).f1), .int .i64 ((rd_T35 t102 x10_1).f2), .bool ((rd_T35 t102 x10_1).f3)] 35 (0, 0)) (by (with_reducible repeat (first | refine blk_drewN ?_ _ | refine blk_drew ?_ | refine blk_alloc ?_ _)); exact BK107.out) hb); have n3_ := Aside0.mk (below_step (by repeat (first | (with_reducible first | exact HB.out | apply below_alloc | apply pw_below_drewN | apply below_drew1 | refine below_set ?_ GE107.out) | exact HB.out)) hb); clear HO_6; clear HO_9; clear BK107; clear HB; have HO_6 := n0_; have HO_9 := n1_; have BK107 := n2_; have HB := n3_; clear n0_ n1_ n2_ n3_; (try clear hb); (try clear hb2); (try clear hk); (try clear hi); have hcz30_0 : w29.cell? ⟨gb107, 0, none⟩ = some (.int .i32 ((rd_T35 t102 x10_1).f0)) := (blk_cell BK107.out 0).trans rfl; have hcz30_1 : w29.cell? ⟨gb107, 1, none⟩ = some (.int .i64 ((rd_T35 t102 x10_1).f1)) := (blk_cell BK107.out 1).trans rfl; have hcz30_2 : w29.cell? ⟨gb107, 2, none⟩ = some (.int .i64 ((rd_T35 t102 x10_1).f2)) := (blk_cell BK107.out 2).trans rfl; have hcz30_3 : w29.cell? ⟨gb107, 3, none⟩ = some (.bool ((rd_T35 t102 x10_1).f3)) := (blk_cell BK107.out 3).trans rfl; have hfz30_0 := blk_frozen BK107.out 0; have hfz30_1 := blk_frozen BK107.out 1; have hfz30_2 := blk_frozen BK107.out 2; have hfz30_3 := blk_frozen BK107.out 3))
                                go_ret
                                exact ⟨by first | rfl | (simp [errW_none, errW_some] <;> rfl) | (simp [*, errW_none, errW_some] <;> rfl), by repeat (first | (with_reducible first | exact HB.out | apply below_alloc | apply pw_below_drewN | apply below_drew1 | refine below_set ?_ GE107.out) | exact HB.out)⟩
                              · rw [if_neg c28] at H
                                have c28b0 : (((rd_T35 t102 x10_1).f3) != (t109 == 1)) = false := by simpa using c28
                                (try (have c28b1 : decide (((rd_T35 t102 x10_1).f3) = (t109 == 1)) = true := by simpa using c28))
                                (try (have c28b2 : (((rd_T35 t102 x10_1).f3) == (t109 == 1)) = true := by simpa using c28))
                                clear c28
                                by_cases c31 : x9_1.length < 35184372088832
                                · rw [if_pos c31] at H
                                  have LMc31 := Aside0.mk c31
                                  clear c31
                                  obtain ⟨y110, hy110⟩ : ∃ y_ : List Int, y_ = (x9_1 ++ [t108]) := ⟨_, rfl⟩
                                  replace H : (cognatelaw01_RunesBack.l0 kj11 a0 a1 t101 t102 (wrap64 (x8_1 + t109)) y110 (wrap64 (x10_1 + 1))) = some r := by first | (rw [hy110]; with_reducible exact H) | (have H2_ := (Option.bind_some _ _).symm.trans H; rw [hy110]; with_reducible exact H2_) | (have H2_ := (Option.bind_some _ _).symm.trans H; with_reducible exact H2_) | with_reducible exact H | (rw [hy110]; exact H) | exact H
                                  have Ny110 := Aside0.mk hy110
                                  clear hy110
                                  have H' := Aside0.mk H
                                  clear H
                                  go_wp2_with (first | ((with_reducible refine gate_callee (f := 25) rfl ?_); refine goesL_ (some 72) rfl rfl Tryd.func25 (by kernel_rfl) rfl #[.string (a0.extract (x8_1 : Int).toNat a0.size)] rfl (by (try simp only [List.map_toArray, List.map_cons, List.map_nil]); first | done | rfl | (simp only [List.length_drop, List.length_take]; rfl)) ?_; (with_reducible refine (utf8_DecodeRuneInString.calls (a0.extract (x8_1 : Int).toNat a0.size) t108 t109 _ ?side1 A24.out).mono ?_); (case side1 => exact TabU.below HTU.out (by repeat (first | (with_reducible first | exact HB.out | apply below_alloc | apply pw_below_drewN | apply below_drew1 | refine below_set ?_ GE107.out) | exact HB.out))); rintro e w32 ⟨rfl, hb⟩; refine ⟨_, rfl, ?_⟩; have n0_ := Aside0.mk (Kd.R_below (by (with_reducible repeat (first | apply Kd.R_alloc | apply Kd.R_drewN | apply Kd.R_drew)); exact HO_6.out) hb); have n1_ := Aside0.mk (Kd.R_below (by (with_reducible repeat (first | apply Kd.R_alloc | apply Kd.R_drewN | apply Kd.R_drew)); exact HO_9.out) hb); have n2_ := Aside0.mk (blk_below (g := gb107) (o := .cells #[.int .i32 ((rd_T35 t102 x10_1).f0), .int .i64 ((rd_T35 t102 x10_1).f1), .int .i64 ((rd_T35 t102 x10_1).f2), .bool ((rd_T35 t102 x10_1).f3)] 35 (0, 0)) (by (with_reducible repeat (first | refine blk_drewN ?_ _ | refine blk_drew ?_ | refine blk_alloc ?_ _)); exact BK107.out) hb); have n3_ := Aside0.mk (below_step (by repeat (first | (with_reducible first | exact HB.out | apply below_alloc | apply pw_below_drewN | apply below_drew1 | refine below_set ?_ GE107.out) | exact HB.out)) hb); clear HO_6; clear HO_9; clear BK107; clear HB; have HO_6 := n0_; have HO_9 := n1_; have BK107 := n2_; have HB := n3_; clear n0_ n1_ n2_ n3_; (try clear hb); (try clear hb2); (try clear hk); (try clear hi); have hcz33_0 : w32.cell? ⟨gb107, 0, none⟩ = some (.int .i32 ((rd_T35 t102 x10_1).f0)) := (blk_cell BK107.out 0).trans rfl; have hcz33_1 : w32.cell? ⟨gb107, 1, none⟩ = some (.int .i64 ((rd_T35 t102 x10_1).f1)) := (blk_cell BK107.out 1).trans rfl; have hcz33_2 : w32.cell? ⟨gb107, 2, none⟩ = some (.int .i64 ((rd_T35 t102 x10_1).f2)) := (blk_cell BK107.out 2).trans rfl; have hcz33_3 : w32.cell? ⟨gb107, 3, none⟩ = some (.bool ((rd_T35 t102 x10_1).f3)) := (blk_cell BK107.out 3).trans rfl; have hfz33_0 := blk_frozen BK107.out 0; have hfz33_1 := blk_frozen BK107.out 1; have hfz33_2 := blk_frozen BK107.out 2; have hfz33_3 := blk_frozen BK107.out 3) | ((with_reducible refine gate_builtin (b := .append) (xs := #[.tmp 96, .tmp 98]) rfl ?_); (try (refine gate_guard (by rfl) ?_; dsimp only)); at_builtin; refine Kd.R_append (Kd.int .i32) (w0 := w) w.heap.size rfl (.tmp 96) (.tmp 98) 39 21 (.int .i32 0) 4 rfl Tryd.underlying39 info21 rfl (by decide) (by omega) u9 x9_1 t108 [.int .i32 t108] (fun _ => True) (fun _ => False) rfl rfl ?aP (fun _ hk => hk.elim) ?aF ?aO ?aB ?aS ?aL ?_; (case aP => exact rfl); (case aB => exact (by repeat (first | (with_reducible first | exact HB.out | apply below_alloc | apply pw_below_drewN | apply below_drew1 | refine below_set ?_ GE107.out) | exact HB.out))); (case aF => exact (fun _ _ => trivial)); (case aO => exact (by (with_reducible repeat (first | apply Kd.R_alloc | apply Kd.R_drewN | apply Kd.R_drew)); exact HO_9.out)); (case aS => exact (below_size (by repeat (first | (with_reducible first | exact HB.out | apply below_alloc | apply pw_below_drewN | apply below_drew1 | refine below_set ?_ GE107.out) | exact HB.out)))); (case aL => have := LMc31.out; omega); intro v111 w34 ho hb hg hat; rw [← Ny110.out] at ho; have n0_ := Aside0.mk (Kd.R_over' (by (with_reducible repeat (first | apply Kd.R_alloc | apply Kd.R_drewN | apply Kd.R_drew)); exact HO_6.out) (Kd.R_typed (by (with_reducible repeat (first | apply Kd.R_alloc | apply Kd.R_drewN | apply Kd.R_drew)); exact HO_9.out)) (by decide) hg); have n1_ := Aside0.mk (blk_grown (g := gb107) (o := .cells #[.int .i32 ((rd_T35 t102 x10_1).f0), .int .i64 ((rd_T35 t102 x10_1).f1), .int .i64 ((rd_T35 t102 x10_1).f2), .bool ((rd_T35 t102 x10_1).f3)] 35 (0, 0)) (by (with_reducible repeat (first | refine blk_drewN ?_ _ | refine blk_drew ?_ | refine blk_alloc ?_ _)); exact BK107.out) hg (Kd.R_ne HO_9.out BK107.out (by decide))); have n2_ := Aside0.mk (hb); have n3_ := Aside0.mk (ho); clear HO_6; clear BK107; clear HB; clear HO_9; have HO_6 := n0_; have BK107 := n1_; have HB := n2_; have HO112 := n3_; clear n0_ n1_ n2_ n3_; clear ho hb hg hat))
                                  go_roundg kj11
                                  case measure => have := HK1.out; have := HJ11.out; omega
                                  case rel => exact ⟨(wrap64 (x8_1 + t109)), (y110), (wrap64 (x10_1 + 1)), (by first | rfl | (simp; done) | (simp [*]; done)), (by first | rfl | (simp; done) | (simp [*]; done)), H', ⟨by have := HK1.out; have := HJ11.out; omega⟩, ⟨by (with_reducible repeat (first | apply Kd.R_alloc | apply Kd.R_drewN | apply Kd.R_drew)); exact Kd.R_mono HO_6.out (fun _ hk => trivial)⟩, ⟨by (with_reducible repeat (first | apply Kd.R_alloc | apply Kd.R_drewN | apply Kd.R_drew)); exact HO112.out⟩, ⟨by repeat (first | (with_reducible first | exact HB.out | apply below_alloc | apply pw_below_drewN | apply below_drew1 | refine below_set ?_ GE107.out) | exact HB.out)⟩⟩
                                · rw [if_neg c31] at H
                                  exact absurd H (by simp)
                            · rw [if_neg c27] at H
                              have c27b0 : (t108 == 65533) = false := beq_eq_false_iff_ne.mpr c27
                              have c27b1 : (t108 != 65533) = true := bne_iff_ne.mpr c27
                              by_cases c35 : (((rd_T35 t102 x10_1).f3) != false) = true
                              · rw [if_pos c35] at H
                                have c35b0 : (((rd_T35 t102 x10_1).f3) != false) = true := c35
                                (try (have c35b1 : decide (((rd_T35 t102 x10_1).f3) = false) = false := by simpa using c35))
                                (try (have c35b2 : (((rd_T35 t102 x10_1).f3) == false) = false := by simpa using c35))
                                (try (have c35b3 : ¬ (((rd_T35 t102 x10_1).f3) = false) := by simpa using c35))
                                clear c35
                                obtain rfl := Option.some.inj H
                                go_wp2_with (first | ((with_reducible refine gate_callee (f := 25) rfl ?_); refine goesL_ (some 72) rfl rfl Tryd.func25 (by kernel_rfl) rfl #[.string (a0.extract (x8_1 : Int).toNat a0.size)] rfl (by (try simp only [List.map_toArray, List.map_cons, List.map_nil]); first | done | rfl | (simp only [List.length_drop, List.length_take]; rfl)) ?_; (with_reducible refine (utf8_DecodeRuneInString.calls (a0.extract (x8_1 : Int).toNat a0.size) t108 t109 _ ?side1 A24.out).mono ?_); (case side1 => exact TabU.below HTU.out (by repeat (first | (with_reducible first | exact HB.out | apply below_alloc | apply pw_below_drewN | apply below_drew1 | refine below_set ?_ GE107.out) | exact HB.out))); rintro e w36 ⟨rfl, hb⟩; refine ⟨_, rfl, ?_⟩; have n0_ := Aside0.mk (Kd.R_below (by (with_reducible repeat (first | apply Kd.R_alloc | apply Kd.R_drewN | apply Kd.R_drew)); exact HO_6.out) hb); have n1_ := Aside0.mk (Kd.R_below (by (with_reducible repeat (first | apply Kd.R_alloc | apply Kd.R_drewN | apply Kd.R_drew)); exact HO_9.out) hb); have n2_ := Aside0.mk (blk_below (g := gb107) (o := .cells #[.int .i32 ((rd_T35 t102 x10_1).f0), .int .i64 ((rd_T35 t102 x10_1).f1), .int .i64 ((rd_T35 t102 x10_1).f2), .bool ((rd_T35 t102 x10_1).f3)] 35 (0, 0)) (by (with_reducible repeat (first | refine blk_drewN ?_ _ | refine blk_drew ?_ | refine blk_alloc ?_ _)); exact BK107.out) hb); have n3_ := Aside0.mk (below_step (by repeat (first | (with_reducible first | exact HB.out | apply below_alloc | apply pw_below_drewN | apply below_drew1 | refine below_set ?_ GE107.out) | exact HB.out)) hb); clear HO_6; clear HO_9; clear BK107; clear HB; have HO_6 := n0_; have HO_9 := n1_; have BK107 := n2_; have HB := n3_; clear n0_ n1_ n2_ n3_; (try clear hb); (try clear hb2); (try clear hk); (try clear hi); have hcz37_0 : w36.cell? ⟨gb107, 0, none⟩ = some (.int .i32 ((rd_T35 t102 x10_1).f0)) := (blk_cell BK107.out 0).trans rfl; have hcz37_1 : w36.cell? ⟨gb107, 1, none⟩ = some (.int .i64 ((rd_T35 t102 x10_1).f1)) := (blk_cell BK107.out 1).trans rfl; have hcz37_2 : w36.cell? ⟨gb107, 2, none⟩ = some (.int .i64 ((rd_T35 t102 x10_1).f2)) := (blk_cell BK107.out 2).trans rfl; have hcz37_3 : w36.cell? ⟨gb107, 3, none⟩ = some (.bool ((rd_T35 t102 x10_1).f3)) := (blk_cell BK107.out 3).trans rfl; have hfz37_0 := blk_frozen BK107.out 0; have hfz37_1 := blk_frozen BK107.out 1; have hfz37_2 := blk_frozen BK107.out 2; have hfz37_3 := blk_frozen BK107.out 3))
                                go_ret
                                exact ⟨by first | rfl | (simp [errW_none, errW_some] <;> rfl) | (simp [*, errW_none, errW_some] <;> rfl), by repeat (first | (with_reducible first | exact HB.out | apply below_alloc | apply pw_below_drewN | apply below_drew1 | refine below_set ?_ GE107.out) | exact HB.out)⟩
                              · rw [if_neg c35] at H
                                have c35b0 : (((rd_T35 t102 x10_1).f3) != false) = false := by simpa using c35
                                (try (have c35b1 : decide (((rd_T35 t102 x10_1).f3) = false) = true := by simpa using c35))
                                (try (have c35b2 : (((rd_T35 t102 x10_1).f3) == false) = true := by simpa using c35))
                                clear c35
                                by_cases c38 : x9_1.length < 35184372088832
                                · rw [if_pos c38] at H
                                  have LMc38 := Aside0.mk c38
                                  clear c38
                                  obtain ⟨y113, hy113⟩ : ∃ y_ : List Int, y_ = (x9_1 ++ [t108]) := ⟨_, rfl⟩
                                  replace H : (cognatelaw01_RunesBack.l0 kj11 a0 a1 t101 t102 (wrap64 (x8_1 + t109)) y113 (wrap64 (x10_1 + 1))) = some r := by first | (rw [hy113]; with_reducible exact H) | (have H2_ := (Option.bind_some _ _).symm.trans H; rw [hy113]; with_reducible exact H2_) | (have H2_ := (Option.bind_some _ _).symm.trans H; with_reducible exact H2_) | with_reducible exact H | (rw [hy113]; exact H) | exact H
                                  have Ny113 := Aside0.mk hy113
                                  clear hy113
                                  have H' := Aside0.mk H
                                  clear H
                                  go_wp2_with (first | ((with_reducible refine gate_callee (f := 25) rfl ?_); refine goesL_ (some 72) rfl rfl Tryd.func25 (by kernel_rfl) rfl #[.string (a0.extract (x8_1 : Int).toNat a0.size)] rfl (by (try simp only [List.map_toArray, List.map_cons, List.map_nil]); first | done | rfl | (simp only [List.length_drop, List.length_take]; rfl)) ?_; (with_reducible refine (utf8_DecodeRuneInString.calls (a0.extract (x8_1 : Int).toNat a0.size) t108 t109 _ ?side1 A24.out).mono ?_); (case side1 => exact TabU.below HTU.out (by repeat (first | (with_reducible first | exact HB.out | apply below_alloc | apply pw_below_drewN | apply below_drew1 | refine below_set ?_ GE107.out) | exact HB.out))); rintro e w39 ⟨rfl, hb⟩; refine ⟨_, rfl, ?_⟩; have n0_ := Aside0.mk (Kd.R_below (by (with_reducible repeat (first | apply Kd.R_alloc | apply Kd.R_drewN | apply Kd.R_drew)); exact HO_6.out) hb); have n1_ := Aside0.mk (Kd.R_below (by (with_reducible repeat (first | apply Kd.R_alloc | apply Kd.R_drewN | apply Kd.R_drew)); exact HO_9.out) hb); have n2_ := Aside0.mk (blk_below (g := gb107) (o := .cells #[.int .i32 ((rd_T35 t102 x10_1).f0), .int .i64 ((rd_T35 t102 x10_1).f1), .int .i64 ((rd_T35 t102 x10_1).f2), .bool ((rd_T35 t102 x10_1).f3)] 35 (0, 0)) (by (with_reducible repeat (first | refine blk_drewN ?_ _ | refine blk_drew ?_ | refine blk_alloc ?_ _)); exact BK107.out) hb); have n3_ := Aside0.mk (below_step (by repeat (first | (with_reducible first | exact HB.out | apply below_alloc | apply pw_below_drewN | apply below_drew1 | refine below_set ?_ GE107.out) | exact HB.out)) hb); clear HO_6; clear HO_9; clear BK107; clear HB; have HO_6 := n0_; have HO_9 := n1_; have BK107 := n2_; have HB := n3_; clear n0_ n1_ n2_ n3_; (try clear hb); (try clear hb2); (try clear hk); (try clear hi); have hcz40_0 : w39.cell? ⟨gb107, 0, none⟩ = some (.int .i32 ((rd_T35 t102 x10_1).f0)) := (blk_cell BK107.out 0).trans rfl; have hcz40_1 : w39.cell? ⟨gb107, 1, none⟩ = some (.int .i64 ((rd_T35 t102 x10_1).f1)) := (blk_cell BK107.out 1).trans rfl; have hcz40_2 : w39.cell? ⟨gb107, 2, none⟩ = some (.int .i64 ((rd_T35 t102 x10_1).f2)) := (blk_cell BK107.out 2).trans rfl; have hcz40_3 : w39.cell? ⟨gb107, 3, none⟩ = some (.bool ((rd_T35 t102 x10_1).f3)) := (blk_cell BK107.out 3).trans rfl; have hfz40_0 := blk_frozen BK107.out 0; have hfz40_1 := blk_frozen BK107.out 1; have hfz40_2 := blk_frozen BK107.out 2; have hfz40_3 := blk_frozen BK107.out 3) | ((with_reducible refine gate_builtin (b := .append) (xs := #[.tmp 96, .tmp 98]) rfl ?_); (try (refine gate_guard (by rfl) ?_; dsimp only)); at_builtin; refine Kd.R_append (Kd.int .i32) (w0 := w) w.heap.size rfl (.tmp 96) (.tmp 98) 39 21 (.int .i32 0) 4 rfl Tryd.underlying39 info21 rfl (by decide) (by omega) u9 x9_1 t108 [.int .i32 t108] (fun _ => True) (fun _ => False) rfl rfl ?aP (fun _ hk => hk.elim) ?aF ?aO ?aB ?aS ?aL ?_; (case aP => exact rfl); (case aB => exact (by repeat (first | (with_reducible first | exact HB.out | apply below_alloc | apply pw_below_drewN | apply below_drew1 | refine below_set ?_ GE107.out) | exact HB.out))); (case aF => exact (fun _ _ => trivial)); (case aO => exact (by (with_reducible repeat (first | apply Kd.R_alloc | apply Kd.R_drewN | apply Kd.R_drew)); exact HO_9.out)); (case aS => exact (below_size (by repeat (first | (with_reducible first | exact HB.out | apply below_alloc | apply pw_below_drewN | apply below_drew1 | refine below_set ?_ GE107.out) | exact HB.out)))); (case aL => have := LMc38.out; omega); intro v114 w41 ho hb hg hat; rw [← Ny113.out] at ho; have n0_ := Aside0.mk (Kd.R_over' (by (with_reducible repeat (first | apply Kd.R_alloc | apply Kd.R_drewN | apply Kd.R_drew)); exact HO_6.out) (Kd.R_typed (by (with_reducible repeat (first | apply Kd.R_alloc | apply Kd.R_drewN | apply Kd.R_drew)); exact HO_9.out)) (by decide) hg); have n1_ := Aside0.mk (blk_grown (g := gb107) (o := .cells #[.int .i32 ((rd_T35 t102 x10_1).f0), .int .i64 ((rd_T35 t102 x10_1).f1), .int .i64 ((rd_T35 t102 x10_1).f2), .bool ((rd_T35 t102 x10_1).f3)] 35 (0, 0)) (by (with_reducible repeat (first | refine blk_drewN ?_ _ | refine blk_drew ?_ | refine blk_alloc ?_ _)); exact BK107.out) hg (Kd.R_ne HO_9.out BK107.out (by decide))); have n2_ := Aside0.mk (hb); have n3_ := Aside0.mk (ho); clear HO_6; clear BK107; clear HB; clear HO_9; have HO_6 := n0_; have BK107 := n1_; have HB := n2_; have HO115 := n3_; clear n0_ n1_ n2_ n3_; clear ho hb hg hat))
                                  go_roundg kj11
                                  case measure => have := HK1.out; have := HJ11.out; omega
                                  case rel => exact ⟨(wrap64 (x8_1 + t109)), (y113), (wrap64 (x10_1 + 1)), (by first | rfl | (simp; done) | (simp [*]; done)), (by first | rfl | (simp; done) | (simp [*]; done)), H', ⟨by have := HK1.out; have := HJ11.out; omega⟩, ⟨by (with_reducible repeat (first | apply Kd.R_alloc | apply Kd.R_drewN | apply Kd.R_drew)); exact Kd.R_mono HO_6.out (fun _ hk => trivial)⟩, ⟨by (with_reducible repeat (first | apply Kd.R_alloc | apply Kd.R_drewN | apply Kd.R_drew)); exact HO115.out⟩, ⟨by repeat (first | (with_reducible first | exact HB.out | apply below_alloc | apply pw_below_drewN | apply below_drew1 | refine below_set ?_ GE107.out) | exact HB.out)⟩⟩
                                · rw [if_neg c38] at H
                                  exact absurd H (by simp)
                          · rw [if_neg c26] at H
                            have c26b0 : (((rd_T35 t102 x10_1).f2) == t109) = false := beq_eq_false_iff_ne.mpr c26
                            have c26b1 : (((rd_T35 t102 x10_1).f2) != t109) = true := bne_iff_ne.mpr c26
                            obtain rfl := Option.some.inj H
                            go_wp2_with (first | ((with_reducible refine gate_callee (f := 25) rfl ?_); refine goesL_ (some 72) rfl rfl Tryd.func25 (by kernel_rfl) rfl #[.string (a0.extract (x8_1 : Int).toNat a0.size)] rfl (by (try simp only [List.map_toArray, List.map_cons, List.map_nil]); first | done | rfl | (simp only [List.length_drop, List.length_take]; rfl)) ?_; (with_reducible refine (utf8_DecodeRuneInString.calls (a0.extract (x8_1 : Int).toNat a0.size) t108 t109 _ ?side1 A24.out).mono ?_); (case side1 => exact TabU.below HTU.out (by repeat (first | (with_reducible first | exact HB.out | apply below_alloc | apply pw_below_drewN | apply below_drew1 | refine below_set ?_ GE107.out) | exact HB.out))); rintro e w42 ⟨rfl, hb⟩; refine ⟨_, rfl, ?_⟩; have n0_ := Aside0.mk (Kd.R_below (by (with_reducible repeat (first | apply Kd.R_alloc | apply Kd.R_drewN | apply Kd.R_drew)); exact HO_6.out) hb); have n1_ := Aside0.mk (Kd.R_below (by (with_reducible repeat (first | apply Kd.R_alloc | apply Kd.R_drewN | apply Kd.R_drew)); exact HO_9.out) hb); have n2_ := Aside0.mk (blk_below (g := gb107) (o := .cells #[.int .i32 ((rd_T35 t102 x10_1).f0), .int .i64 ((rd_T35 t102 x10_1).f1), .int .i64 ((rd_T35 t102 x10_1).f2), .bool ((rd_T35 t102 x10_1).f3)] 35 (0, 0)) (by (with_reducible repeat (first | refine blk_drewN ?_ _ | refine blk_drew ?_ | refine blk_alloc ?_ _)); exact BK107.out) hb); have n3_ := Aside0.mk (below_step (by repeat (first | (with_reducible first | exact HB.out | apply below_alloc | apply pw_below_drewN | apply below_drew1 | refine below_set ?_ GE107.out) | exact HB.out)) hb); clear HO_6; clear HO_9; clear BK107; clear HB; have HO_6 := n0_; have HO_9 := n1_; have BK107 := n2_; have HB := n3_; clear n0_ n1_ n2_ n3_; (try clear hb); (try clear hb2); (try clear hk); (try clear hi); have hcz43_0 : w42.cell? ⟨gb107, 0, none⟩ = some (.int .i32 ((rd_T35 t102 x10_1).f0)) := (blk_cell BK107.out 0).trans rfl; have hcz43_1 : w42.cell? ⟨gb107, 1, none⟩ = some (.int .i64 ((rd_T35 t102 x10_1).f1)) := (blk_cell BK107.out 1).trans rfl; have hcz43_2 : w42.cell? ⟨gb107, 2, none⟩ = some (.int .i64 ((rd_T35 t102 x10_1).f2)) := (blk_cell BK107.out 2).trans rfl; have hcz43_3 : w42.cell? ⟨gb107, 3, none⟩ = some (.bool ((rd_T35 t102 x10_1).f3)) := (blk_cell BK107.out 3).trans rfl; have hfz43_0 := blk_frozen BK107.out 0; have hfz43_1 := blk_frozen BK107.out 1; have hfz43_2 := blk_frozen BK107.out 2; have hfz43_3 := blk_frozen BK107.out 3))
                            go_ret
                            exact ⟨by first | rfl | (simp [errW_none, errW_some] <;> rfl) | (simp [*, errW_none, errW_some] <;> rfl), by repeat (first | (with_reducible first | exact HB.out | apply below_alloc | apply pw_below_drewN | apply below_drew1 | refine below_set ?_ GE107.out) | exact HB.out)⟩
                        · rw [if_neg c25] at H
                          have c25b0 : (((rd_T35 t102 x10_1).f0) == t108) = false := beq_eq_false_iff_ne.mpr c25
                          have c25b1 : (((rd_T35 t102 x10_1).f0) != t108) = true := bne_iff_ne.mpr c25
                          obtain rfl := Option.some.inj H
                          go_wp2_with (first | ((with_reducible refine gate_callee (f := 25) rfl ?_); refine goesL_ (some 72) rfl rfl Tryd.func25 (by kernel_rfl) rfl #[.string (a0.extract (x8_1 : Int).toNat a0.size)] rfl (by (try simp only [List.map_toArray, List.map_cons, List.map_nil]); first | done | rfl | (simp only [List.length_drop, List.length_take]; rfl)) ?_; (with_reducible refine (utf8_DecodeRuneInString.calls (a0.extract (x8_1 : Int).toNat a0.size) t108 t109 _ ?side1 A24.out).mono ?_); (case side1 => exact TabU.below HTU.out (by repeat (first | (with_reducible first | exact HB.out | apply below_alloc | apply pw_below_drewN | apply below_drew1 | refine below_set ?_ GE107.out) | exact HB.out))); rintro e w44 ⟨rfl, hb⟩; refine ⟨_, rfl, ?_⟩; have n0_ := Aside0.mk (Kd.R_below (by (with_reducible repeat (first | apply Kd.R_alloc | apply Kd.R_drewN | apply Kd.R_drew)); exact HO_6.out) hb); have n1_ := Aside0.mk (Kd.R_below (by (with_reducible repeat (first | apply Kd.R_alloc | apply Kd.R_drewN | apply Kd.R_drew)); exact HO_9.out) hb); have n2_ := Aside0.mk (blk_below (g := gb107) (o := .cells #[.int .i32 ((rd_T35 t102 x10_1).f0), .int .i64 ((rd_T35 t102 x10_1).f1), .int .i64 ((rd_T35 t102 x10_1).f2), .bool ((rd_T35 t102 x10_1).f3)] 35 (0, 0)) (by (with_reducible repeat (first | refine blk_drewN ?_ _ | refine blk_drew ?_ | refine blk_alloc ?_ _)); exact BK107.out) hb); have n3_ := Aside0.mk (below_step (by repeat (first | (with_reducible first | exact HB.out | apply below_alloc | apply pw_below_drewN | apply below_drew1 | refine below_set ?_ GE107.out) | exact HB.out)) hb); clear HO_6; clear HO_9; clear BK107; clear HB; have HO_6 := n0_; have HO_9 := n1_; have BK107 := n2_; have HB := n3_; clear n0_ n1_ n2_ n3_; (try clear hb); (try clear hb2); (try clear hk); (try clear hi); have hcz45_0 : w44.cell? ⟨gb107, 0, none⟩ = some (.int .i32 ((rd_T35 t102 x10_1).f0)) := (blk_cell BK107.out 0).trans rfl; have hcz45_1 : w44.cell? ⟨gb107, 1, none⟩ = some (.int .i64 ((rd_T35 t102 x10_1).f1)) := (blk_cell BK107.out 1).trans rfl; have hcz45_2 : w44.cell? ⟨gb107, 2, none⟩ = some (.int .i64 ((rd_T35 t102 x10_1).f2)) := (blk_cell BK107.out 2).trans rfl; have hcz45_3 : w44.cell? ⟨gb107, 3, none⟩ = some (.bool ((rd_T35 t102 x10_1).f3)) := (blk_cell BK107.out 3).trans rfl; have hfz45_0 := blk_frozen BK107.out 0; have hfz45_1 := blk_frozen BK107.out 1; have hfz45_2 := blk_frozen BK107.out 2; have hfz45_3 := blk_frozen BK107.out 3))
                          go_ret
                          exact ⟨by first | rfl | (simp [errW_none, errW_some] <;> rfl) | (simp [*, errW_none, errW_some] <;> rfl), by repeat (first | (with_reducible first | exact HB.out | apply below_alloc | apply pw_below_drewN | apply below_drew1 | refine below_set ?_ GE107.out) | exact HB.out)⟩
                      · rw [if_neg c23] at H
                        exact absurd H (by simp)
                    · rw [if_neg c22] at H
                      exact absurd H (by simp)
            · rw [if_neg c11] at H
              exact absurd H (by simp)
          · rw [if_neg c10] at H
            have c10b0 : decide (x10_1 < (t102.length : Int)) = false := decide_eq_false c10
            clear c10
            by_cases c46 : (wrap64 ((t102.length : Int) + 1)) = 0
            · rw [if_pos c46] at H
              exact absurd H (by simp)
            · rw [if_neg c46] at H
              have c46b0 : ((wrap64 ((t102.length : Int) + 1)) == 0) = false := beq_eq_false_iff_ne.mpr c46
              have c46b1 : ((wrap64 ((t102.length : Int) + 1)) != 0) = true := bne_iff_ne.mpr c46
              replace H := Option.bind_eq_some_iff.mp H
              obtain ⟨⟨t116, t117⟩, A470, H⟩ := H
              replace H : ((runes_Part.f a0 (Int.tmod (wrap64 ((Int.tmod a1 (wrap64 ((t102.length : Int) + 1))) + (wrap64 ((t102.length : Int) + 1)))) (wrap64 ((t102.length : Int) + 1))) (t102.length : Int)).bind fun bt118 => ((runes_Back.f a0).bind fun bt120 => ((runes_Len.f bt120.1).bind fun bt122 => (if x8_1 = (a0.size : Int) then (if t117 = 0 then (if bt118.2 = 0 then (if bt120.2 = 0 then (if bt122.2 = 0 then (if t116.size + bt118.1.size ≤ 9223372036854775807 then (if (t116 ++ bt118.1).toList = a0.toList then (if bt122.1 = (t102.length : Int) then ((runes_Text.f x9_1).bind fun t124 => (cognatelaw01_RunesBack.j2 k1 t101 bt120.1 (bt120.1.toList != t124.toList))) else (cognatelaw01_RunesBack.j2 k1 t101 bt120.1 true)) else (cognatelaw01_RunesBack.j2 k1 t101 bt120.1 true)) else (none)) else (cognatelaw01_RunesBack.j2 k1 t101 bt120.1 true)) else (cognatelaw01_RunesBack.j2 k1 t101 bt120.1 true)) else (cognatelaw01_RunesBack.j2 k1 t101 bt120.1 true)) else (cognatelaw01_RunesBack.j2 k1 t101 bt120.1 true)) else (cognatelaw01_RunesBack.j2 k1 t101 bt120.1 true))))) = some r := H
              have A47 := Aside0.mk A470
              clear A470
              replace H := Option.bind_eq_some_iff.mp H
              obtain ⟨⟨t118, t119⟩, A480, H⟩ := H
              replace H : ((runes_Back.f a0).bind fun bt120 => ((runes_Len.f bt120.1).bind fun bt122 => (if x8_1 = (a0.size : Int) then (if t117 = 0 then (if t119 = 0 then (if bt120.2 = 0 then (if bt122.2 = 0 then (if t116.size + t118.size ≤ 9223372036854775807 then (if (t116 ++ t118).toList = a0.toList then (if bt122.1 = (t102.length : Int) then ((runes_Text.f x9_1).bind fun t124 => (cognatelaw01_RunesBack.j2 k1 t101 bt120.1 (bt120.1.toList != t124.toList))) else (cognatelaw01_RunesBack.j2 k1 t101 bt120.1 true)) else (cognatelaw01_RunesBack.j2 k1 t101 bt120.1 true)) else (none)) else (cognatelaw01_RunesBack.j2 k1 t101 bt120.1 true)) else (cognatelaw01_RunesBack.j2 k1 t101 bt120.1 true)) else (cognatelaw01_RunesBack.j2 k1 t101 bt120.1 true)) else (cognatelaw01_RunesBack.j2 k1 t101 bt120.1 true)) else (cognatelaw01_RunesBack.j2 k1 t101 bt120.1 true)))) = some r := H
              have A48 := Aside0.mk A480
              clear A480
              replace H := Option.bind_eq_some_iff.mp H
              obtain ⟨⟨t120, t121⟩, A490, H⟩ := H
              replace H : ((runes_Len.f t120).bind fun bt122 => (if x8_1 = (a0.size : Int) then (if t117 = 0 then (if t119 = 0 then (if t121 = 0 then (if bt122.2 = 0 then (if t116.size + t118.size ≤ 9223372036854775807 then (if (t116 ++ t118).toList = a0.toList then (if bt122.1 = (t102.length : Int) then ((runes_Text.f x9_1).bind fun t124 => (cognatelaw01_RunesBack.j2 k1 t101 t120 (t120.toList != t124.toList))) else (cognatelaw01_RunesBack.j2 k1 t101 t120 true)) else (cognatelaw01_RunesBack.j2 k1 t101 t120 true)) else (none)) else (cognatelaw01_RunesBack.j2 k1 t101 t120 true)) else (cognatelaw01_RunesBack.j2 k1 t101 t120 true)) else (cognatelaw01_RunesBack.j2 k1 t101 t120 true)) else (cognatelaw01_RunesBack.j2 k1 t101 t120 true)) else (cognatelaw01_RunesBack.j2 k1 t101 t120 true))) = some r := H
              have A49 := Aside0.mk A490
              clear A490
              replace H := Option.bind_eq_some_iff.mp H
              obtain ⟨⟨t122, t123⟩, A500, H⟩ := H
              replace H : (if x8_1 = (a0.size : Int) then (if t117 = 0 then (if t119 = 0 then (if t121 = 0 then (if t123 = 0 then (if t116.size + t118.size ≤ 9223372036854775807 then (if (t116 ++ t118).toList = a0.toList then (if t122 = (t102.length : Int) then ((runes_Text.f x9_1).bind fun t124 => (cognatelaw01_RunesBack.j2 k1 t101 t120 (t120.toList != t124.toList))) else (cognatelaw01_RunesBack.j2 k1 t101 t120 true)) else (cognatelaw01_RunesBack.j2 k1 t101 t120 true)) else (none)) else (cognatelaw01_RunesBack.j2 k1 t101 t120 true)) else (cognatelaw01_RunesBack.j2 k1 t101 t120 true)) else (cognatelaw01_RunesBack.j2 k1 t101 t120 true)) else (cognatelaw01_RunesBack.j2 k1 t101 t120 true)) else (cognatelaw01_RunesBack.j2 k1 t101 t120 true)) = some r := H
              have A50 := Aside0.mk A500
              clear A500
              have HC51 := Aside0.mk H
              clear H
              obtain ⟨Ao52, co52, eo52⟩ := Kd.R_slice HO_6.out
              subst eo52
              go_upto_region 26 with (first | ((with_reducible refine gate_callee (f := 19) rfl ?_); refine goesL_ (some 116) rfl rfl Tryd.func19 (by kernel_rfl) rfl #[.string a0, .int .i64 0, .int .i64 (Int.tmod (wrap64 ((Int.tmod a1 (wrap64 ((t102.length : Int) + 1))) + (wrap64 ((t102.length : Int) + 1)))) (wrap64 ((t102.length : Int) + 1)))] rfl (by (try simp only [List.map_toArray, List.map_cons, List.map_nil]); first | done | rfl | (simp only [List.length_drop, List.length_take]; rfl)) ?_; (with_reducible refine (runes_Part.calls a0 0 (Int.tmod (wrap64 ((Int.tmod a1 (wrap64 ((t102.length : Int) + 1))) + (wrap64 ((t102.length : Int) + 1)))) (wrap64 ((t102.length : Int) + 1))) t116 t117 _ ?side1 A47.out).mono ?_); (case side1 => exact TabU.below HTU.out (by repeat (first | (with_reducible first | exact HB.out | apply below_alloc | apply pw_below_drewN | apply below_drew1) | exact HB.out))); rintro e w53 ⟨rfl, hb⟩; refine ⟨_, rfl, ?_⟩; have n0_ := Aside0.mk (Kd.R_below (by (with_reducible repeat (first | apply Kd.R_alloc | apply Kd.R_drewN | apply Kd.R_drew)); exact HO_6.out) hb); have n1_ := Aside0.mk (Kd.R_below (by (with_reducible repeat (first | apply Kd.R_alloc | apply Kd.R_drewN | apply Kd.R_drew)); exact HO_9.out) hb); have n2_ := Aside0.mk (below_step (by repeat (first | (with_reducible first | exact HB.out | apply below_alloc | apply pw_below_drewN | apply below_drew1) | exact HB.out)) hb); clear HO_6; clear HO_9; clear HB; have HO_6 := n0_; have HO_9 := n1_; have HB := n2_; clear n0_ n1_ n2_; (try clear hb); (try clear hb2); (try clear hk); (try clear hi)) | ((with_reducible refine gate_callee (f := 19) rfl ?_); refine goesL_ (some 124) rfl rfl Tryd.func19 (by kernel_rfl) rfl #[.string a0, .int .i64 (Int.tmod (wrap64 ((Int.tmod a1 (wrap64 ((t102.length : Int) + 1))) + (wrap64 ((t102.length : Int) + 1)))) (wrap64 ((t102.length : Int) + 1))), .int .i64 (t102.length : Int)] rfl (by (try simp only [List.map_toArray, List.map_cons, List.map_nil]); first | done | rfl | (simp only [List.length_drop, List.length_take]; rfl)) ?_; (with_reducible refine (runes_Part.calls a0 (Int.tmod (wrap64 ((Int.tmod a1 (wrap64 ((t102.length : Int) + 1))) + (wrap64 ((t102.length : Int) + 1)))) (wrap64 ((t102.length : Int) + 1))) (t102.length : Int) t118 t119 _ ?side1 A48.out).mono ?_); (case side1 => exact TabU.below HTU.out (by repeat (first | (with_reducible first | exact HB.out | apply below_alloc | apply pw_below_drewN | apply below_drew1) | exact HB.out))); rintro e w54 ⟨rfl, hb⟩; refine ⟨_, rfl, ?_⟩; have n0_ := Aside0.mk (Kd.R_below (by (with_reducible repeat (first | apply Kd.R_alloc | apply Kd.R_drewN | apply Kd.R_drew)); exact HO_6.out) hb); have n1_ := Aside0.mk (Kd.R_below (by (with_reducible repeat (first | apply Kd.R_alloc | apply Kd.R_drewN | apply Kd.R_drew)); exact HO_9.out) hb); have n2_ := Aside0.mk (below_step (by repeat (first | (with_reducible first | exact HB.out | apply below_alloc | apply pw_below_drewN | apply below_drew1) | exact HB.out)) hb); clear HO_6; clear HO_9; clear HB; have HO_6 := n0_; have HO_9 := n1_; have HB := n2_; clear n0_ n1_ n2_; (try clear hb); (try clear hb2); (try clear hk); (try clear hi)) | ((with_reducible refine gate_callee (f := 21) rfl ?_); refine goesL_ (some 129) rfl rfl Tryd.func21 (by kernel_rfl) rfl #[.string a0] rfl (by (try simp only [List.map_toArray, List.map_cons, List.map_nil]); first | done | rfl | (simp only [List.length_drop, List.length_take]; rfl)) ?_; (with_reducible refine (runes_Back.calls a0 t120 t121 _ A49.out).mono ?_); rintro e w55 ⟨rfl, hb⟩; refine ⟨_, rfl, ?_⟩; have n0_ := Aside0.mk (Kd.R_below (by (with_reducible repeat (first | apply Kd.R_alloc | apply Kd.R_drewN | apply Kd.R_drew)); exact HO_6.out) hb); have n1_ := Aside0.mk (Kd.R_below (by (with_reducible repeat (first | apply Kd.R_alloc | apply Kd.R_drewN | apply Kd.R_drew)); exact HO_9.out) hb); have n2_ := Aside0.mk (below_step (by repeat (first | (with_reducible first | exact HB.out | apply below_alloc | apply pw_below_drewN | apply below_drew1) | exact HB.out)) hb); clear HO_6; clear HO_9; clear HB; have HO_6 := n0_; have HO_9 := n1_; have HB := n2_; clear n0_ n1_ n2_; (try clear hb); (try clear hb2); (try clear hk); (try clear hi)) | ((with_reducible refine gate_callee (f := 15) rfl ?_); refine goesL_ (some 134) rfl rfl Tryd.func15 (by kernel_rfl) rfl #[.string t120] rfl (by (try simp only [List.map_toArray, List.map_cons, List.map_nil]); first | done | rfl | (simp only [List.length_drop, List.length_take]; rfl)) ?_; (with_reducible refine (runes_Len.calls t120 t122 t123 _ A50.out).mono ?_); rintro e w56 ⟨rfl, hb⟩; refine ⟨_, rfl, ?_⟩; have n0_ := Aside0.mk (Kd.R_below (by (with_reducible repeat (first | apply Kd.R_alloc | apply Kd.R_drewN | apply Kd.R_drew)); exact HO_6.out) hb); have n1_ := Aside0.mk (Kd.R_below (by (with_reducible repeat (first | apply Kd.R_alloc | apply Kd.R_drewN | apply Kd.R_drew)); exact HO_9.out) hb); have n2_ := Aside0.mk (below_step (by repeat (first | (with_reducible first | exact HB.out | apply below_alloc | apply pw_below_drewN | apply below_drew1) | exact HB.out)) hb); clear HO_6; clear HO_9; clear HB; have HO_6 := n0_; have HO_9 := n1_; have HB := n2_; clear n0_ n1_ n2_; (try clear hb); (try clear hb2); (try clear hk); (try clear hi)))
              (try simp only [Act.put, List.setIfInBounds_toArray, List.set_cons_zero, List.set_cons_succ])
              go_cut [175] (fun v175 wc => ∃ (kq : Nat) (x175_50 : Bool), v175 = .bool x175_50 ∧ Aside0 (cognatelaw01_RunesBack.j2 kq t101 t120 x175_50 = some r) ∧ Aside0 (kq ≤ k1) ∧ Aside0 (Below w.heap.size w wc))
              case first =>
                have H := HC51.out
                clear HC51
                by_cases c57 : x8_1 = (a0.size : Int)
                · rw [if_pos c57] at H
                  have c57b0 : (x8_1 == (a0.size : Int)) = true := beq_iff_eq.mpr c57
                  have c57b1 : (x8_1 != (a0.size : Int)) = false := bne_eq_false_iff_eq.mpr c57
                  clear c57
                  (first | rw [c57b0] | (simp only [i64_w, i32_w]; rw [c57b0]) | skip)
                  by_cases c58 : t117 = 0
                  · rw [if_pos c58] at H
                    have c58b0 : (t117 == 0) = true := beq_iff_eq.mpr c58
                    have c58b1 : (t117 != 0) = false := bne_eq_false_iff_eq.mpr c58
                    clear c58
                    by_cases c59 : t119 = 0
                    · rw [if_pos c59] at H
                      have c59b0 : (t119 == 0) = true := beq_iff_eq.mpr c59
                      have c59b1 : (t119 != 0) = false := bne_eq_false_iff_eq.mpr c59
                      clear c59
                      by_cases c60 : t121 = 0
                      · rw [if_pos c60] at H
                        have c60b0 : (t121 == 0) = true := beq_iff_eq.mpr c60
                        have c60b1 : (t121 != 0) = false := bne_eq_false_iff_eq.mpr c60
                        clear c60
                        by_cases c61 : t123 = 0
                        · rw [if_pos c61] at H
                          have c61b0 : (t123 == 0) = true := beq_iff_eq.mpr c61
                          have c61b1 : (t123 != 0) = false := bne_eq_false_iff_eq.mpr c61
                          clear c61
                          by_cases c62 : t116.size + t118.size ≤ 9223372036854775807
                          · rw [if_pos c62] at H
                            have c62b0 := eq_true c62
                            have c62b1 : decide (t116.size + t118.size ≤ 9223372036854775807) = true := decide_eq_true c62
                            try have c62b2 : (9223372036854775807 < t116.size + t118.size) = False := eq_false (Nat.not_lt.2 c62)
                            by_cases c63 : (t116 ++ t118).toList = a0.toList
                            · rw [if_pos c63] at H
                              have c63b0 : ((t116 ++ t118).toList == a0.toList) = true := beq_iff_eq.mpr c63
                              have c63b1 : ((t116 ++ t118).toList != a0.toList) = false := bne_eq_false_iff_eq.mpr c63
                              clear c63
                              by_cases c64 : t122 = (t102.length : Int)
                              · rw [if_pos c64] at H
                                have c64b0 : (t122 == (t102.length : Int)) = true := beq_iff_eq.mpr c64
                                have c64b1 : (t122 != (t102.length : Int)) = false := bne_eq_false_iff_eq.mpr c64
                                clear c64
                                replace H := Option.bind_eq_some_iff.mp H
                                obtain ⟨t124, A650, H⟩ := H
                                replace H : (cognatelaw01_RunesBack.j2 k1 t101 t120 (t120.toList != t124.toList)) = some r := H
                                have A65 := Aside0.mk A650
                                clear A650
                                have H' := Aside0.mk H
                                clear H
                                obtain ⟨Ao66, co66, eo66⟩ := Kd.R_slice HO_9.out
                                subst eo66
                                go_wp2_with (first | (go_at_call 26; (with_reducible refine (runes_Text.calls _ _ x9_1 t124 _ ?side1 ?side2 A65.out).mono ?_); (case side1 => repeat (first | exact (Kd.R_reads' HO_9.out).2.2 | (with_reducible refine Kd.C_alloc ?_ _) | (with_reducible refine Kd.C_drewN ?_ _) | (with_reducible refine Kd.C_drew ?_))); (case side2 => exact (Kd.R_reads' HO_9.out).2.1); rintro e w' ⟨rfl, ⟨nd, rfl⟩⟩))
                                go_meet
                                case rel => exact ⟨_, ((t120.toList != t124.toList)), (by first | rfl | (simp; done) | (simp [*]; done)), H', ⟨by have := HK1.out; first | omega | exact Nat.le_refl _⟩, ⟨by repeat (first | (with_reducible first | exact HB.out | apply below_alloc | apply pw_below_drewN | apply below_drew1) | exact HB.out)⟩⟩
                              · rw [if_neg c64] at H
                                have c64b0 : (t122 == (t102.length : Int)) = false := beq_eq_false_iff_ne.mpr c64
                                have c64b1 : (t122 != (t102.length : Int)) = true := bne_iff_ne.mpr c64
                                have H' := Aside0.mk H
                                clear H
                                go_wp2
                                go_meet
                                case rel => exact ⟨_, (true), (by first | rfl | (simp; done) | (simp [*]; done)), H', ⟨by have := HK1.out; first | omega | exact Nat.le_refl _⟩, ⟨by repeat (first | (with_reducible first | exact HB.out | apply below_alloc | apply pw_below_drewN | apply below_drew1) | exact HB.out)⟩⟩
                            · rw [if_neg c63] at H
                              have c63b0 : ((t116 ++ t118).toList == a0.toList) = false := beq_eq_false_iff_ne.mpr c63
                              have c63b1 : ((t116 ++ t118).toList != a0.toList) = true := bne_iff_ne.mpr c63
                              have H' := Aside0.mk H
                              clear H
                              go_wp2
                              go_meet
                              case rel => exact ⟨_, (true), (by first | rfl | (simp; done) | (simp [*]; done)), H', ⟨by have := HK1.out; first | omega | exact Nat.le_refl _⟩, ⟨by repeat (first | (with_reducible first | exact HB.out | apply below_alloc | apply pw_below_drewN | apply below_drew1) | exact HB.out)⟩⟩
                          · rw [if_neg c62] at H
                            exact absurd H (by simp)
                        · rw [if_neg c61] at H
                          have c61b0 : (t123 == 0) = false := beq_eq_false_iff_ne.mpr c61
                          have c61b1 : (t123 != 0) = true := bne_iff_ne.mpr c61
                          have H' := Aside0.mk H
                          clear H
                          go_wp2
                          go_meet
                          case rel => exact ⟨_, (true), (by first | rfl | (simp; done) | (simp [*]; done)), H', ⟨by have := HK1.out; first | omega | exact Nat.le_refl _⟩, ⟨by repeat (first | (with_reducible first | exact HB.out | apply below_alloc | apply pw_below_drewN | apply below_drew1) | exact HB.out)⟩⟩
                      · rw [if_neg c60] at H
                        have c60b0 : (t121 == 0) = false := beq_eq_false_iff_ne.mpr c60
                        have c60b1 : (t121 != 0) = true := bne_iff_ne.mpr c60
                        have H' := Aside0.mk H
                        clear H
                        go_wp2
                        go_meet
                        case rel => exact ⟨_, (true), (by first | rfl | (simp; done) | (simp [*]; done)), H', ⟨by have := HK1.out; first | omega | exact Nat.le_refl _⟩, ⟨by repeat (first | (with_reducible first | exact HB.out | apply below_alloc | apply pw_below_drewN | apply below_drew1) | exact HB.out)⟩⟩
                    · rw [if_neg c59] at H
                      have c59b0 : (t119 == 0) = false := beq_eq_false_iff_ne.mpr c59
                      have c59b1 : (t119 != 0) = true := bne_iff_ne.mpr c59
                      have H' := Aside0.mk H
                      clear H
                      go_wp2
                      go_meet
                      case rel => exact ⟨_, (true), (by first | rfl | (simp; done) | (simp [*]; done)), H', ⟨by have := HK1.out; first | omega | exact Nat.le_refl _⟩, ⟨by repeat (first | (with_reducible first | exact HB.out | apply below_alloc | apply pw_below_drewN | apply below_drew1) | exact HB.out)⟩⟩
                  · rw [if_neg c58] at H
                    have c58b0 : (t117 == 0) = false := beq_eq_false_iff_ne.mpr c58
                    have c58b1 : (t117 != 0) = true := bne_iff_ne.mpr c58
                    have H' := Aside0.mk H
                    clear H
                    go_wp2
                    go_meet
                    case rel => exact ⟨_, (true), (by first | rfl | (simp; done) | (simp [*]; done)), H', ⟨by have := HK1.out; first | omega | exact Nat.le_refl _⟩, ⟨by repeat (first | (with_reducible first | exact HB.out | apply below_alloc | apply pw_below_drewN | apply below_drew1) | exact HB.out)⟩⟩
                · rw [if_neg c57] at H
                  have c57b0 : (x8_1 == (a0.size : Int)) = false := beq_eq_false_iff_ne.mpr c57
                  have c57b1 : (x8_1 != (a0.size : Int)) = true := bne_iff_ne.mpr c57
                  (first | rw [c57b0] | (simp only [i64_w, i32_w]; rw [c57b0]) | skip)
                  have H' := Aside0.mk H
                  clear H
                  go_wp2
                  go_meet
                  case rel => exact ⟨_, (true), (by first | rfl | (simp; done) | (simp [*]; done)), H', ⟨by have := HK1.out; first | omega | exact Nat.le_refl _⟩, ⟨by repeat (first | (with_reducible first | exact HB.out | apply below_alloc | apply pw_below_drewN | apply below_drew1) | exact HB.out)⟩⟩
              case rest =>
                clear HC51
                try clear c1
                try clear p1
                try clear q1
                try clear hx1
                try clear c2
                try clear p2
                try clear c3
                try clear c4
                try clear c4b0
                try clear c4b1
                try clear c5
                try clear c6
                try clear p6
                try clear c7
                try clear c7b0
                try clear c7b1
                try clear c10
                try clear c10b0
                try clear p10
                try clear q10
                try clear hx10
                try clear c11
                try clear c11b0
                try clear c13
                try clear c15
                try clear c16
                try clear c16b0
                try clear c16b1
                try clear c17
                try clear c17b0
                try clear c19
                try clear c21
                try clear c22
                try clear c22b0
                try clear c22b1
                try clear c23
                try clear c23b0
                try clear c23b1
                try clear c24
                try clear c25
                try clear c25b0
                try clear c25b1
                try clear c26
                try clear c26b0
                try clear c26b1
                try clear c27
                try clear c27b0
                try clear c27b1
                try clear c28
                try clear c28b0
                try clear c28b1
                try clear c28b2
                try clear c31
                try clear c35
                try clear c35b0
                try clear c35b1
                try clear c35b2
                try clear c38
                try clear c46
                try clear c46b0
                try clear c46b1
                try clear c57
                try clear c57b0
                try clear c57b1
                try clear c58
                try clear c58b0
                try clear c58b1
                try clear c59
                try clear c59b0
                try clear c59b1
                try clear c60
                try clear c60b0
                try clear c60b1
                try clear c61
                try clear c61b0
                try clear c61b1
                try clear c62
                try clear c62b0
                try clear c62b1
                try clear c62b2
                try clear c63
                try clear c63b0
                try clear c63b1
                try clear c64
                try clear c64b0
                try clear c64b1
                try clear p64
                try clear hcz15_0
                try clear hcz15_1
                try clear hcz15_2
                try clear hcz15_3
                try clear hcz18_0
                try clear hcz18_1
                try clear hcz18_2
                try clear hcz18_3
                try clear hcz19_0
                try clear hcz19_1
                try clear hcz19_2
                try clear hcz19_3
                try clear hcz20_0
                try clear hcz20_1
                try clear hcz20_2
                try clear hcz20_3
                try clear hcz30_0
                try clear hcz30_1
                try clear hcz30_2
                try clear hcz30_3
                try clear hcz33_0
                try clear hcz33_1
                try clear hcz33_2
                try clear hcz33_3
                try clear hcz37_0
                try clear hcz37_1
                try clear hcz37_2
                try clear hcz37_3
                try clear hcz40_0
                try clear hcz40_1
                try clear hcz40_2
                try clear hcz40_3
                try clear hcz43_0
                try clear hcz43_1
                try clear hcz43_2
                try clear hcz43_3
                try clear hcz45_0
                try clear hcz45_1
                try clear hcz45_2
                try clear hcz45_3
                try clear hfz15_0
                try clear hfz15_1
                try clear hfz15_2
                try clear hfz15_3
                try clear hfz18_0
                try clear hfz18_1
                try clear hfz18_2
                try clear hfz18_3
                try clear hfz19_0
                try clear hfz19_1
                try clear hfz19_2
                try clear hfz19_3
                try clear hfz20_0
                try clear hfz20_1
                try clear hfz20_2
                try clear hfz20_3
                try clear hfz30_0
                try clear hfz30_1
                try clear hfz30_2
                try clear hfz30_3
                try clear hfz33_0
                try clear hfz33_1
                try clear hfz33_2
                try clear hfz33_3
                try clear hfz37_0
                try clear hfz37_1
                try clear hfz37_2
                try clear hfz37_3
                try clear hfz40_0
                try clear hfz40_1
                try clear hfz40_2
                try clear hfz40_3
                try clear hfz43_0
                try clear hfz43_1
                try clear hfz43_2
                try clear hfz43_3
                try clear hfz45_0
                try clear hfz45_1
                try clear hfz45_2
                try clear hfz45_3
                try clear hx106_0
                try clear hx106_1
                try clear hx106_2
                try clear hx106_3
                try clear p1
                try clear p10
                try clear p106
                try clear p2
                try clear p6
                try clear q1
                try clear q10
                try clear q106
                obtain ⟨kq, x175_50, rfl, HA, HJ50, HB⟩ := hcut
                cases kq with
                | zero => exact absurd HA.out (by simp [cognatelaw01_RunesBack.j2])
                | succ kj50 =>
                  have H := HA.out
                  clear HA
                  simp only [cognatelaw01_RunesBack.j2] at H
                  by_cases c67 : x175_50 = true
                  · subst c67
                    have H1 : (some false) = some r := by rw [if_pos rfl] at H; exact H
                    clear H
                    have H := H1
                    clear H1
                    obtain rfl := Option.some.inj H
                    go_wp2
                    go_ret
                    exact ⟨by first | rfl | (simp [errW_none, errW_some] <;> rfl) | (simp [*, errW_none, errW_some] <;> rfl), by repeat (first | (with_reducible first | exact HB.out | apply below_alloc | apply pw_below_drewN | apply below_drew1) | exact HB.out)⟩
                  · replace c67 := Bool.eq_false_iff.mpr c67
                    subst c67
                    have H1 : ((runes_Broken.f t120).bind fun bt125 => ((runes_Back.f t120).bind fun bt127 => (if t101 = true then (if bt125.2 = 0 then (if bt125.1 = (-1) then (if bt127.2 = 0 then (some (bt127.1.toList == t120.toList)) else (some false)) else (some false)) else (some false)) else (some false)))) = some r := by rw [if_neg (show ¬ (false = true) by decide)] at H; exact H
                    clear H
                    have H := H1
                    clear H1
                    replace H := Option.bind_eq_some_iff.mp H
                    obtain ⟨⟨t125, t126⟩, A680, H⟩ := H
                    replace H : ((runes_Back.f t120).bind fun bt127 => (if t101 = true then (if t126 = 0 then (if t125 = (-1) then (if bt127.2 = 0 then (some (bt127.1.toList == t120.toList)) else (some false)) else (some false)) else (some false)) else (some false))) = some r := H
                    have A68 := Aside0.mk A680
                    clear A680
                    replace H := Option.bind_eq_some_iff.mp H
                    obtain ⟨⟨t127, t128⟩, A690, H⟩ := H
                    replace H : (if t101 = true then (if t126 = 0 then (if t125 = (-1) then (if t128 = 0 then (some (t127.toList == t120.toList)) else (some false)) else (some false)) else (some false)) else (some false)) = some r := H
                    have A69 := Aside0.mk A690
                    clear A690
                    by_cases c70 : t101 = true
                    · subst c70
                      have H1 : (if t126 = 0 then (if t125 = (-1) then (if t128 = 0 then (some (t127.toList == t120.toList)) else (some false)) else (some false)) else (some false)) = some r := by rw [if_pos rfl] at H; exact H
                      clear H
                      have H := H1
                      clear H1
                      by_cases c71 : t126 = 0
                      · rw [if_pos c71] at H
                        have c71b0 : (t126 == 0) = true := beq_iff_eq.mpr c71
                        have c71b1 : (t126 != 0) = false := bne_eq_false_iff_eq.mpr c71
                        clear c71
                        by_cases c72 : t125 = (-1)
                        · rw [if_pos c72] at H
                          have c72b0 : (t125 == (-1)) = true := beq_iff_eq.mpr c72
                          have c72b1 : (t125 != (-1)) = false := bne_eq_false_iff_eq.mpr c72
                          clear c72
                          by_cases c73 : t128 = 0
                          · rw [if_pos c73] at H
                            have c73b0 : (t128 == 0) = true := beq_iff_eq.mpr c73
                            have c73b1 : (t128 != 0) = false := bne_eq_false_iff_eq.mpr c73
                            clear c73
                            obtain rfl := Option.some.inj H
                            go_wp2_with (first | ((with_reducible refine gate_callee (f := 17) rfl ?_); refine goesL_ (some 178) rfl rfl Tryd.func17 (by kernel_rfl) rfl #[.string t120] rfl (by (try simp only [List.map_toArray, List.map_cons, List.map_nil]); first | done | rfl | (simp only [List.length_drop, List.length_take]; rfl)) ?_; (with_reducible refine (runes_Broken.calls t120 t125 t126 _ ?side1 A68.out).mono ?_); (case side1 => exact TabU.below HTU.out (by repeat (first | (with_reducible first | exact HB.out | apply below_alloc | apply pw_below_drewN | apply below_drew1) | exact HB.out))); rintro e w74 ⟨rfl, hb⟩; refine ⟨_, rfl, ?_⟩; have n0_ := Aside0.mk (below_step (by repeat (first | (with_reducible first | exact HB.out | apply below_alloc | apply pw_below_drewN | apply below_drew1) | exact HB.out)) hb); clear HB; have HB := n0_; clear n0_; (try clear hb); (try clear hb2); (try clear hk); (try clear hi)) | ((with_reducible refine gate_callee (f := 21) rfl ?_); refine goesL_ (some 183) rfl rfl Tryd.func21 (by kernel_rfl) rfl #[.string t120] rfl (by (try simp only [List.map_toArray, List.map_cons, List.map_nil]); first | done | rfl | (simp only [List.length_drop, List.length_take]; rfl)) ?_; (with_reducible refine (runes_Back.calls t120 t127 t128 _ A69.out).mono ?_); rintro e w75 ⟨rfl, hb⟩; refine ⟨_, rfl, ?_⟩; have n0_ := Aside0.mk (below_step (by repeat (first | (with_reducible first | exact HB.out | apply below_alloc | apply pw_below_drewN | apply below_drew1) | exact HB.out)) hb); clear HB; have HB := n0_; clear n0_; (try clear hb); (try clear hb2); (try clear hk); (try clear hi)))
                            go_ret
                            exact ⟨by first | rfl | (simp [errW_none, errW_some] <;> rfl) | (simp [*, errW_none, errW_some] <;> rfl), by repeat (first | (with_reducible first | exact HB.out | apply below_alloc | apply pw_below_drewN | apply below_drew1) | exact HB.out)⟩
                          · rw [if_neg c73] at H
                            have c73b0 : (t128 == 0) = false := beq_eq_false_iff_ne.mpr c73
                            have c73b1 : (t128 != 0) = true := bne_iff_ne.mpr c73
                            obtain rfl := Option.some.inj H
                            go_wp2_with (first | ((with_reducible refine gate_callee (f := 17) rfl ?_); refine goesL_ (some 178) rfl rfl Tryd.func17 (by kernel_rfl) rfl #[.string t120] rfl (by (try simp only [List.map_toArray, List.map_cons, List.map_nil]); first | done | rfl | (simp only [List.length_drop, List.length_take]; rfl)) ?_; (with_reducible refine (runes_Broken.calls t120 t125 t126 _ ?side1 A68.out).mono ?_); (case side1 => exact TabU.below HTU.out (by repeat (first | (with_reducible first | exact HB.out | apply below_alloc | apply pw_below_drewN | apply below_drew1) | exact HB.out))); rintro e w76 ⟨rfl, hb⟩; refine ⟨_, rfl, ?_⟩; have n0_ := Aside0.mk (below_step (by repeat (first | (with_reducible first | exact HB.out | apply below_alloc | apply pw_below_drewN | apply below_drew1) | exact HB.out)) hb); clear HB; have HB := n0_; clear n0_; (try clear hb); (try clear hb2); (try clear hk); (try clear hi)) | ((with_reducible refine gate_callee (f := 21) rfl ?_); refine goesL_ (some 183) rfl rfl Tryd.func21 (by kernel_rfl) rfl #[.string t120] rfl (by (try simp only [List.map_toArray, List.map_cons, List.map_nil]); first | done | rfl | (simp only [List.length_drop, List.length_take]; rfl)) ?_; (with_reducible refine (runes_Back.calls t120 t127 t128 _ A69.out).mono ?_); rintro e w77 ⟨rfl, hb⟩; refine ⟨_, rfl, ?_⟩; have n0_ := Aside0.mk (below_step (by repeat (first | (with_reducible first | exact HB.out | apply below_alloc | apply pw_below_drewN | apply below_drew1) | exact HB.out)) hb); clear HB; have HB := n0_; clear n0_; (try clear hb); (try clear hb2); (try clear hk); (try clear hi)))
                            go_ret
                            exact ⟨by first | rfl | (simp [errW_none, errW_some] <;> rfl) | (simp [*, errW_none, errW_some] <;> rfl), by repeat (first | (with_reducible first | exact HB.out | apply below_alloc | apply pw_below_drewN | apply below_drew1) | exact HB.out)⟩
                        · rw [if_neg c72] at H
                          have c72b0 : (t125 == (-1)) = false := beq_eq_false_iff_ne.mpr c72
                          have c72b1 : (t125 != (-1)) = true := bne_iff_ne.mpr c72
                          obtain rfl := Option.some.inj H
                          go_wp2_with (first | ((with_reducible refine gate_callee (f := 17) rfl ?_); refine goesL_ (some 178) rfl rfl Tryd.func17 (by kernel_rfl) rfl #[.string t120] rfl (by (try simp only [List.map_toArray, List.map_cons, List.map_nil]); first | done | rfl | (simp only [List.length_drop, List.length_take]; rfl)) ?_; (with_reducible refine (runes_Broken.calls t120 t125 t126 _ ?side1 A68.out).mono ?_); (case side1 => exact TabU.below HTU.out (by repeat (first | (with_reducible first | exact HB.out | apply below_alloc | apply pw_below_drewN | apply below_drew1) | exact HB.out))); rintro e w78 ⟨rfl, hb⟩; refine ⟨_, rfl, ?_⟩; have n0_ := Aside0.mk (below_step (by repeat (first | (with_reducible first | exact HB.out | apply below_alloc | apply pw_below_drewN | apply below_drew1) | exact HB.out)) hb); clear HB; have HB := n0_; clear n0_; (try clear hb); (try clear hb2); (try clear hk); (try clear hi)) | ((with_reducible refine gate_callee (f := 21) rfl ?_); refine goesL_ (some 183) rfl rfl Tryd.func21 (by kernel_rfl) rfl #[.string t120] rfl (by (try simp only [List.map_toArray, List.map_cons, List.map_nil]); first | done | rfl | (simp only [List.length_drop, List.length_take]; rfl)) ?_; (with_reducible refine (runes_Back.calls t120 t127 t128 _ A69.out).mono ?_); rintro e w79 ⟨rfl, hb⟩; refine ⟨_, rfl, ?_⟩; have n0_ := Aside0.mk (below_step (by repeat (first | (with_reducible first | exact HB.out | apply below_alloc | apply pw_below_drewN | apply below_drew1) | exact HB.out)) hb); clear HB; have HB := n0_; clear n0_; (try clear hb); (try clear hb2); (try clear hk); (try clear hi)))
                          go_ret
                          exact ⟨by first | rfl | (simp [errW_none, errW_some] <;> rfl) | (simp [*, errW_none, errW_some] <;> rfl), by repeat (first | (with_reducible first | exact HB.out | apply below_alloc | apply pw_below_drewN | apply below_drew1) | exact HB.out)⟩
                      · rw [if_neg c71] at H
                        have c71b0 : (t126 == 0) = false := beq_eq_false_iff_ne.mpr c71
                        have c71b1 : (t126 != 0) = true := bne_iff_ne.mpr c71
                        obtain rfl := Option.some.inj H
                        go_wp2_with (first | ((with_reducible refine gate_callee (f := 17) rfl ?_); refine goesL_ (some 178) rfl rfl Tryd.func17 (by kernel_rfl) rfl #[.string t120] rfl (by (try simp only [List.map_toArray, List.map_cons, List.map_nil]); first | done | rfl | (simp only [List.length_drop, List.length_take]; rfl)) ?_; (with_reducible refine (runes_Broken.calls t120 t125 t126 _ ?side1 A68.out).mono ?_); (case side1 => exact TabU.below HTU.out (by repeat (first | (with_reducible first | exact HB.out | apply below_alloc | apply pw_below_drewN | apply below_drew1) | exact HB.out))); rintro e w80 ⟨rfl, hb⟩; refine ⟨_, rfl, ?_⟩; have n0_ := Aside0.mk (below_step (by repeat (first | (with_reducible first | exact HB.out | apply below_alloc | apply pw_below_drewN | apply below_drew1) | exact HB.out)) hb); clear HB; have HB := n0_; clear n0_; (try clear hb); (try clear hb2); (try clear hk); (try clear hi)) | ((with_reducible refine gate_callee (f := 21) rfl ?_); refine goesL_ (some 183) rfl rfl Tryd.func21 (by kernel_rfl) rfl #[.string t120] rfl (by (try simp only [List.map_toArray, List.map_cons, List.map_nil]); first | done | rfl | (simp only [List.length_drop, List.length_take]; rfl)) ?_; (with_reducible refine (runes_Back.calls t120 t127 t128 _ A69.out).mono ?_); rintro e w81 ⟨rfl, hb⟩; refine ⟨_, rfl, ?_⟩; have n0_ := Aside0.mk (below_step (by repeat (first | (with_reducible first | exact HB.out | apply below_alloc | apply pw_below_drewN | apply below_drew1) | exact HB.out)) hb); clear HB; have HB := n0_; clear n0_; (try clear hb); (try clear hb2); (try clear hk); (try clear hi)))
                        go_ret
                        exact ⟨by first | rfl | (simp [errW_none, errW_some] <;> rfl) | (simp [*, errW_none, errW_some] <;> rfl), by repeat (first | (with_reducible first | exact HB.out | apply below_alloc | apply pw_below_drewN | apply below_drew1) | exact HB.out)⟩
                    · replace c70 := Bool.eq_false_iff.mpr c70
                      subst c70
                      have H1 : (some false) = some r := by rw [if_neg (show ¬ (false = true) by decide)] at H; exact H
                      clear H
                      have H := H1
                      clear H1
                      obtain rfl := Option.some.inj H
                      go_wp2_with (first | ((with_reducible refine gate_callee (f := 17) rfl ?_); refine goesL_ (some 178) rfl rfl Tryd.func17 (by kernel_rfl) rfl #[.string t120] rfl (by (try simp only [List.map_toArray, List.map_cons, List.map_nil]); first | done | rfl | (simp only [List.length_drop, List.length_take]; rfl)) ?_; (with_reducible refine (runes_Broken.calls t120 t125 t126 _ ?side1 A68.out).mono ?_); (case side1 => exact TabU.below HTU.out (by repeat (first | (with_reducible first | exact HB.out | apply below_alloc | apply pw_below_drewN | apply below_drew1) | exact HB.out))); rintro e w82 ⟨rfl, hb⟩; refine ⟨_, rfl, ?_⟩; have n0_ := Aside0.mk (below_step (by repeat (first | (with_reducible first | exact HB.out | apply below_alloc | apply pw_below_drewN | apply below_drew1) | exact HB.out)) hb); clear HB; have HB := n0_; clear n0_; (try clear hb); (try clear hb2); (try clear hk); (try clear hi)) | ((with_reducible refine gate_callee (f := 21) rfl ?_); refine goesL_ (some 183) rfl rfl Tryd.func21 (by kernel_rfl) rfl #[.string t120] rfl (by (try simp only [List.map_toArray, List.map_cons, List.map_nil]); first | done | rfl | (simp only [List.length_drop, List.length_take]; rfl)) ?_; (with_reducible refine (runes_Back.calls t120 t127 t128 _ A69.out).mono ?_); rintro e w83 ⟨rfl, hb⟩; refine ⟨_, rfl, ?_⟩; have n0_ := Aside0.mk (below_step (by repeat (first | (with_reducible first | exact HB.out | apply below_alloc | apply pw_below_drewN | apply below_drew1) | exact HB.out)) hb); clear HB; have HB := n0_; clear n0_; (try clear hb); (try clear hb2); (try clear hk); (try clear hi)))
                      go_ret
                      exact ⟨by first | rfl | (simp [errW_none, errW_some] <;> rfl) | (simp [*, errW_none, errW_some] <;> rfl), by repeat (first | (with_reducible first | exact HB.out | apply below_alloc | apply pw_below_drewN | apply below_drew1) | exact HB.out)⟩
    · rw [if_neg c7] at H
      have c7b0 : (t103 == 0) = false := beq_eq_false_iff_ne.mpr c7
      have c7b1 : (t103 != 0) = true := bne_iff_ne.mpr c7
      obtain rfl := Option.some.inj H
      go_enter Tryd.func6, Tryd.ntmps6
      go_wp2_with (first | ((with_reducible refine gate_callee (f := 24) rfl ?_); refine goesL_ (some 28) rfl rfl Tryd.func24 (by kernel_rfl) rfl #[] rfl (by (try simp only [List.map_toArray, List.map_cons, List.map_nil]); first | done | rfl | (simp only [List.length_drop, List.length_take]; rfl)) ?_; (with_reducible refine (cognatelaw01_alive.calls k  t101 _ ?side1 ?side2 A3.out).mono ?_); (case side1 => exact TabU.below HTU.out (by repeat (first | (with_reducible first | exact HB.out | apply below_alloc | apply pw_below_drewN | apply below_drew1) | exact HB.out))); (case side2 => exact TabN.below HTN.out (by repeat (first | (with_reducible first | exact HB.out | apply below_alloc | apply pw_below_drewN | apply below_drew1) | exact HB.out))); rintro e w84 ⟨rfl, hb⟩; refine ⟨_, rfl, ?_⟩; have n0_ := Aside0.mk (below_step (by repeat (first | (with_reducible first | exact HB.out | apply below_alloc | apply pw_below_drewN | apply below_drew1) | exact HB.out)) hb); clear HB; have HB := n0_; clear n0_; (try clear hb); (try clear hb2); (try clear hk); (try clear hi)) | ((with_reducible refine gate_callee (f := 13) rfl ?_); refine goesL_ (some 35) rfl rfl Tryd.func13 (by kernel_rfl) rfl #[.string a0] rfl (by (try simp only [List.map_toArray, List.map_cons, List.map_nil]); first | done | rfl | (simp only [List.length_drop, List.length_take]; rfl)) ?_; (with_reducible refine (runes_Pieces.calls a0 t102 t103 _ ?side1 A6.out).mono ?_); (case side1 => exact TabU.below HTU.out (by repeat (first | (with_reducible first | exact HB.out | apply below_alloc | apply pw_below_drewN | apply below_drew1) | exact HB.out))); rintro e w85 ⟨v104, rfl, ho0, hb⟩; refine ⟨_, rfl, ?_⟩; have n0_ := Aside0.mk (Kd.R_lower ho0 (below_size (by repeat (first | (with_reducible first | exact HB.out | apply below_alloc | apply pw_below_drewN | apply below_drew1) | exact HB.out)))); have n1_ := Aside0.mk (below_step (by repeat (first | (with_reducible first | exact HB.out | apply below_alloc | apply pw_below_drewN | apply below_drew1) | exact HB.out)) hb); clear HB; have HO105 := n0_; have HB := n1_; clear n0_ n1_; (try clear hb); (try clear hb2); (try clear hk); (try clear hi); (try clear ho0)))
      go_ret
      exact ⟨by first | rfl | (simp [errW_none, errW_some] <;> rfl) | (simp [*, errW_none, errW_some] <;> rfl), by repeat (first | (with_reducible first | exact HB.out | apply below_alloc | apply pw_below_drewN | apply below_drew1) | exact HB.out)⟩

/-- THE ONE PURE STATEMENT of cognatelaw01_RunesBack: yours. -/
def cognatelaw01_RunesBack.Pure : Prop := ∀ (a0 : ByteArray) (a1 : Int), a0.size ≤ 140737488351232 → (Lit.int .i64 a1).wf = true → ∃ k, cognatelaw01_RunesBack.f k a0 a1 = some true
theorem cognatelaw01_RunesBack.walk (P : cognatelaw01_RunesBack.Pure) (a0 : ByteArray) (a1 : Int) (w : World) (hTU : TabU w) (hTN : TabN w) (w0 : a0.size ≤ 140737488351232) (w1 : (Lit.int .i64 a1).wf = true) :
    Calls Tryd.prog 6 #[.string a0, .int .i64 a1] w fun e w' => e = .returned (.bool true) ∧ Below w.heap.size w w' := by
  obtain ⟨k, h⟩ := P a0 a1 w0 w1
  refine (cognatelaw01_RunesBack.calls k a0 a1 true w hTU hTN h).mono ?_
  rintro e w' ⟨rfl, hd⟩
  exact ⟨rfl, hd⟩

end Go.Proofs.YtglaagoblcpggaaDoor.R
