-- Written by my program oprint.py (a driver round the kit's printer) out of the translation. Lean checks it.
import Derived.Test.YtglaagoblcpggaaDoorK
import Derived.Test.YtglaagoblcpggaaDoorF64
import Derived.Test.YtglaagoblcpggaaDoorF68
namespace Go.Proofs.YtglaagoblcpggaaDoor.R
open Go.RowKit Go.Proofs.YtglaagoblcpggaaDoorW.PrintWords Go.Proofs.YtglaagoblcpggaaDoorW.PrintLast Go.Proofs.YtglaagoblcpggaaDoorW.PrintMore
attribute [local go_sem] max2_int min2_int max_two min_two max_three min_three max_four min_four   -- for this text's walks alone
set_option linter.unusedVariables false
set_option linter.unusedSimpArgs false

/-! ### cognateref01_shown: function 57 -/
def cognateref01_shown.j0 : Nat → ByteArray → Int → Bool → Int → Int → Int → Bool → Option (ByteArray)
  | 0, _, _, _, _, _, _, _ => none
  | k + 1, x0, x5, x23, x102000, x102001, x102002, x102003 => if x23 = true then (if 0 ≤ x102001 then (if x102001 ≤ (wrap64 (x102001 + 1)) then (if (wrap64 (x102001 + 1)) ≤ (x0.size : Int) then (if 1 + (x0.extract (x102001 : Int).toNat ((wrap64 (x102001 + 1)) : Int).toNat).size ≤ 9223372036854775807 then (some ((⟨#[92]⟩ : ByteArray) ++ (x0.extract (x102001 : Int).toNat ((wrap64 (x102001 + 1)) : Int).toNat))) else (none)) else (none)) else (none)) else (none)) else (if x5 ≥ 32 then (if x5 ≤ 126 then (if 0 ≤ x102001 then (if x102001 ≤ (wrap64 (x102001 + 1)) then (if (wrap64 (x102001 + 1)) ≤ (x0.size : Int) then (some (x0.extract (x102001 : Int).toNat ((wrap64 (x102001 + 1)) : Int).toNat)) else (none)) else (none)) else (none)) else ((cognateref01_number.f k (wrap64 (x102000))).bind fun t104 => (if 2 + t104.size ≤ 9223372036854775807 then (if ((⟨#[92, 117]⟩ : ByteArray) ++ t104).size + 1 ≤ 9223372036854775807 then (some (((⟨#[92, 117]⟩ : ByteArray) ++ t104) ++ (⟨#[59]⟩ : ByteArray))) else (none)) else (none)))) else ((cognateref01_number.f k (wrap64 (x102000))).bind fun t105 => (if 2 + t105.size ≤ 9223372036854775807 then (if ((⟨#[92, 117]⟩ : ByteArray) ++ t105).size + 1 ≤ 9223372036854775807 then (some (((⟨#[92, 117]⟩ : ByteArray) ++ t105) ++ (⟨#[59]⟩ : ByteArray))) else (none)) else (none))))
def cognateref01_shown.f (k : Nat) (a0 : ByteArray) (a1_0 : Int) (a1_1 : Int) (a1_2 : Int) (a1_3 : Bool) : Option (ByteArray) := if 0 ≤ a1_1 then (if a1_1 < (a0.size : Int) then (if a1_3 = true then ((cognateref01_sixteen.f (wrap64 (Int.tdiv (wrap64 (bt a0 a1_1)) 16))).bind fun t102 => (if 2 + t102.size ≤ 9223372036854775807 then ((cognateref01_sixteen.f (Int.tmod (wrap64 (bt a0 a1_1)) 16)).bind fun t103 => (if ((⟨#[92, 120]⟩ : ByteArray) ++ t102).size + t103.size ≤ 9223372036854775807 then (some (((⟨#[92, 120]⟩ : ByteArray) ++ t102) ++ t103)) else (none))) else (none))) else (if (bt a0 a1_1) = 34 then (cognateref01_shown.j0 k a0 (bt a0 a1_1) true a1_0 a1_1 a1_2 a1_3) else (cognateref01_shown.j0 k a0 (bt a0 a1_1) ((bt a0 a1_1) == 92) a1_0 a1_1 a1_2 a1_3))) else (none)) else (none)
theorem cognateref01_shown.mono_l : ∀ k, (∀ y0 y1 y2 y3 y4 y5 y6, LeO (cognateref01_shown.j0 k y0 y1 y2 y3 y4 y5 y6) (cognateref01_shown.j0 (k + 1) y0 y1 y2 y3 y4 y5 y6))
  | 0 => fun _ _ _ _ _ _ _ r h => by simp [cognateref01_shown.j0] at h
  | k + 1 => by
    have ih0 := cognateref01_shown.mono_l k
    · intro y0 y1 y2 y3 y4 y5 y6
      unfold cognateref01_shown.j0
      repeat' first
      | (with_reducible exact ih0 _ _ _ _ _ _ _)
      | (with_reducible exact cognateref01_number.mono _ _)
      | (with_reducible exact LeO.refl _)
      | (with_reducible exact LeO.none _)
      | (with_reducible refine LeO.ite ?_ ?_)
      | (with_reducible refine LeO.bind ?_ (fun _ => ?_))
      | exact ih0 _ _ _ _ _ _ _
      | exact cognateref01_number.mono _ _
      | exact LeO.none _
      | refine LeO.ite ?_ ?_
      | refine LeO.bind ?_ (fun _ => ?_)
theorem cognateref01_shown.mono : ∀ a0 a1 a2 a3 a4 k, LeO (cognateref01_shown.f k a0 a1 a2 a3 a4) (cognateref01_shown.f (k + 1) a0 a1 a2 a3 a4) := by
  intro a0 a1 a2 a3 a4 k
  have ih0 := cognateref01_shown.mono_l k
  unfold cognateref01_shown.f
  repeat' first
      | (with_reducible exact ih0 _ _ _ _ _ _ _)
      | (with_reducible exact cognateref01_number.mono _ _)
      | (with_reducible exact LeO.refl _)
      | (with_reducible exact LeO.none _)
      | (with_reducible refine LeO.ite ?_ ?_)
      | (with_reducible refine LeO.bind ?_ (fun _ => ?_))
      | exact ih0 _ _ _ _ _ _ _
      | exact cognateref01_number.mono _ _
      | exact LeO.none _
      | refine LeO.ite ?_ ?_
      | refine LeO.bind ?_ (fun _ => ?_)
set_option maxHeartbeats 8000000 in
set_option maxRecDepth 100000 in
theorem cognateref01_shown.calls (k : Nat) (a0 : ByteArray) (a1_0 : Int) (a1_1 : Int) (a1_2 : Int) (a1_3 : Bool) (r : ByteArray) (w : World) (h : cognateref01_shown.f k a0 a1_0 a1_1 a1_2 a1_3 = some r) :
    Calls Tryd.prog 57 #[.string a0, .agg #[.int .i32 a1_0, .int .i64 a1_1, .int .i64 a1_2, .bool a1_3]] w fun e w' => e = .returned (.string r) ∧ Below w.heap.size w w' := by
  have hu35 := Tryd.underlying35
  have HB := Aside0.mk (Below.refl w.heap.size w)
  have H : (if 0 ≤ a1_1 then (if a1_1 < (a0.size : Int) then (if a1_3 = true then ((cognateref01_sixteen.f (wrap64 (Int.tdiv (wrap64 (bt a0 a1_1)) 16))).bind fun t102 => (if 2 + t102.size ≤ 9223372036854775807 then ((cognateref01_sixteen.f (Int.tmod (wrap64 (bt a0 a1_1)) 16)).bind fun t103 => (if ((⟨#[92, 120]⟩ : ByteArray) ++ t102).size + t103.size ≤ 9223372036854775807 then (some (((⟨#[92, 120]⟩ : ByteArray) ++ t102) ++ t103)) else (none))) else (none))) else (if (bt a0 a1_1) = 34 then (cognateref01_shown.j0 k a0 (bt a0 a1_1) true a1_0 a1_1 a1_2 a1_3) else (cognateref01_shown.j0 k a0 (bt a0 a1_1) ((bt a0 a1_1) == 92) a1_0 a1_1 a1_2 a1_3))) else (none)) else (none)) = some r := h
  clear h
  by_cases c3 : 0 ≤ a1_1
  · rw [if_pos c3] at H
    have c3b0 : decide (0 ≤ a1_1) = true := decide_eq_true c3
    clear c3
    by_cases c4 : a1_1 < (a0.size : Int)
    · rw [if_pos c4] at H
      have c4b0 : decide (a1_1 < (a0.size : Int)) = true := decide_eq_true c4
      clear c4
      by_cases c6 : a1_3 = true
      · subst c6
        have H1 : ((cognateref01_sixteen.f (wrap64 (Int.tdiv (wrap64 (bt a0 a1_1)) 16))).bind fun t102 => (if 2 + t102.size ≤ 9223372036854775807 then ((cognateref01_sixteen.f (Int.tmod (wrap64 (bt a0 a1_1)) 16)).bind fun t103 => (if ((⟨#[92, 120]⟩ : ByteArray) ++ t102).size + t103.size ≤ 9223372036854775807 then (some (((⟨#[92, 120]⟩ : ByteArray) ++ t102) ++ t103)) else (none))) else (none))) = some r := by rw [if_pos rfl] at H; exact H
        clear H
        have H := H1
        clear H1
        replace H := Option.bind_eq_some_iff.mp H
        obtain ⟨t102, A70, H⟩ := H
        replace H : (if 2 + t102.size ≤ 9223372036854775807 then ((cognateref01_sixteen.f (Int.tmod (wrap64 (bt a0 a1_1)) 16)).bind fun t103 => (if ((⟨#[92, 120]⟩ : ByteArray) ++ t102).size + t103.size ≤ 9223372036854775807 then (some (((⟨#[92, 120]⟩ : ByteArray) ++ t102) ++ t103)) else (none))) else (none)) = some r := H
        have A7 := Aside0.mk A70
        clear A70
        by_cases c8 : 2 + t102.size ≤ 9223372036854775807
        · rw [if_pos c8] at H
          have c8b0 := eq_true c8
          have c8b1 : decide (2 + t102.size ≤ 9223372036854775807) = true := decide_eq_true c8
          try have c8b2 : (9223372036854775807 < 2 + t102.size) = False := eq_false (Nat.not_lt.2 c8)
          replace H := Option.bind_eq_some_iff.mp H
          obtain ⟨t103, A90, H⟩ := H
          replace H : (if ((⟨#[92, 120]⟩ : ByteArray) ++ t102).size + t103.size ≤ 9223372036854775807 then (some (((⟨#[92, 120]⟩ : ByteArray) ++ t102) ++ t103)) else (none)) = some r := H
          have A9 := Aside0.mk A90
          clear A90
          by_cases c10 : ((⟨#[92, 120]⟩ : ByteArray) ++ t102).size + t103.size ≤ 9223372036854775807
          · rw [if_pos c10] at H
            have c10b0 := eq_true c10
            have c10b1 : decide (((⟨#[92, 120]⟩ : ByteArray) ++ t102).size + t103.size ≤ 9223372036854775807) = true := decide_eq_true c10
            try have c10b2 : (9223372036854775807 < ((⟨#[92, 120]⟩ : ByteArray) ++ t102).size + t103.size) = False := eq_false (Nat.not_lt.2 c10)
            try have c10b5 : (9223372036854775807 < 2 + t102.size + t103.size) = False := eq_false (Nat.not_lt.2 (by have z := c10; simp only [ByteArray.size_append] at z; exact z))
            obtain rfl := Option.some.inj H
            go_enter Tryd.func57, Tryd.ntmps57
            go_wp2_with (first | ((with_reducible refine gate_dst (N := 3) rfl ?_); refine box_event ?hg (N := 3) ?hd (cs := #[.int .i32 a1_0, .int .i64 a1_1, .int .i64 a1_2, .bool true]) (t := 35) ?hr ?_; (case hd => rfl); (case hg => rfl); (case hr => first | (go_simp; done) | (go_simp; rfl)); intro gb101 hg w11 hbox hb; have n0_ := Aside0.mk (below_step (by repeat (first | (with_reducible first | exact HB.out | apply below_alloc | apply pw_below_drewN | apply below_drew1) | exact HB.out)) hb); have n1_ := Aside0.mk (hbox); have n2_ := Aside0.mk ((by rw [hg]; exact (below_size (by repeat (first | (with_reducible first | exact HB.out | apply below_alloc | apply pw_below_drewN | apply below_drew1) | exact HB.out))) : w.heap.size ≤ gb101)); have n3_ := Aside0.mk ((by rw [hg]; exact (below_size (by repeat (first | (with_reducible first | exact HB.out | apply below_alloc | apply pw_below_drewN | apply below_drew1) | exact HB.out))) : w.heap.size ≤ gb101)); clear HB; have HB := n0_; have BK101 := n1_; have GW101 := n2_; have GE101 := n3_; clear n0_ n1_ n2_ n3_; clear hb hbox hg; have hcz12_0 : w11.cell? ⟨gb101, 0, none⟩ = some (.int .i32 a1_0) := (blk_cell BK101.out 0).trans rfl; have hcz12_1 : w11.cell? ⟨gb101, 1, none⟩ = some (.int .i64 a1_1) := (blk_cell BK101.out 1).trans rfl; have hcz12_2 : w11.cell? ⟨gb101, 2, none⟩ = some (.int .i64 a1_2) := (blk_cell BK101.out 2).trans rfl; have hcz12_3 : w11.cell? ⟨gb101, 3, none⟩ = some (.bool true) := (blk_cell BK101.out 3).trans rfl; have hfz12_0 := blk_frozen BK101.out 0; have hfz12_1 := blk_frozen BK101.out 1; have hfz12_2 := blk_frozen BK101.out 2; have hfz12_3 := blk_frozen BK101.out 3; have p5 : 0 ≤ (a1_1 : Int) := of_decide_eq_true (by first | (with_reducible assumption) | assumption); have q5 : a1_1 < (a0.size : Int) := of_decide_eq_true (by first | (with_reducible assumption) | assumption); have hx5 := bt_at a0 a1_1; replace p5 := eq_true p5; replace q5 := eq_true q5) | ((with_reducible refine gate_callee (f := 68) rfl ?_); refine goesL_ (some 16) rfl rfl Tryd.func68 (by kernel_rfl) rfl #[.int .i64 (wrap64 (Int.tdiv (wrap64 (bt a0 a1_1)) 16))] rfl (by (try simp only [List.map_toArray, List.map_cons, List.map_nil]); first | done | rfl | (simp only [List.length_drop, List.length_take]; rfl)) ?_; (with_reducible refine (cognateref01_sixteen.calls (wrap64 (Int.tdiv (wrap64 (bt a0 a1_1)) 16)) t102 _ A7.out).mono ?_); rintro e w' ⟨rfl, ⟨nd, rfl⟩⟩; refine ⟨_, rfl, ?_⟩) | ((with_reducible refine gate_callee (f := 68) rfl ?_); refine goesL_ (some 21) rfl rfl Tryd.func68 (by kernel_rfl) rfl #[.int .i64 (Int.tmod (wrap64 (bt a0 a1_1)) 16)] rfl (by (try simp only [List.map_toArray, List.map_cons, List.map_nil]); first | done | rfl | (simp only [List.length_drop, List.length_take]; rfl)) ?_; (with_reducible refine (cognateref01_sixteen.calls (Int.tmod (wrap64 (bt a0 a1_1)) 16) t103 _ A9.out).mono ?_); rintro e w' ⟨rfl, ⟨nd, rfl⟩⟩; refine ⟨_, rfl, ?_⟩))
            go_ret
            exact ⟨by first | rfl | (simp [errW_none, errW_some] <;> rfl) | (simp [*, errW_none, errW_some] <;> rfl), by repeat (first | (with_reducible first | exact HB.out | apply below_alloc | apply pw_below_drewN | apply below_drew1 | refine below_set ?_ GE101.out) | exact HB.out)⟩
          · rw [if_neg c10] at H
            exact absurd H (by simp)
        · rw [if_neg c8] at H
          exact absurd H (by simp)
      · replace c6 := Bool.eq_false_iff.mpr c6
        subst c6
        have H1 : (if (bt a0 a1_1) = 34 then (cognateref01_shown.j0 k a0 (bt a0 a1_1) true a1_0 a1_1 a1_2 false) else (cognateref01_shown.j0 k a0 (bt a0 a1_1) ((bt a0 a1_1) == 92) a1_0 a1_1 a1_2 false)) = some r := by rw [if_neg (show ¬ (false = true) by decide)] at H; exact H
        clear H
        have H := H1
        clear H1
        have HC13 := Aside0.mk H
        clear H
        go_enter Tryd.func57, Tryd.ntmps57
        go_upto_region 4 with (first | ((with_reducible refine gate_dst (N := 3) rfl ?_); refine box_event ?hg (N := 3) ?hd (cs := #[.int .i32 a1_0, .int .i64 a1_1, .int .i64 a1_2, .bool false]) (t := 35) ?hr ?_; (case hd => rfl); (case hg => rfl); (case hr => first | (go_simp; done) | (go_simp; rfl)); intro gb101 hg w14 hbox hb; have n0_ := Aside0.mk (below_step (by repeat (first | (with_reducible first | exact HB.out | apply below_alloc | apply pw_below_drewN | apply below_drew1) | exact HB.out)) hb); have n1_ := Aside0.mk (hbox); have n2_ := Aside0.mk ((by rw [hg]; exact (below_size (by repeat (first | (with_reducible first | exact HB.out | apply below_alloc | apply pw_below_drewN | apply below_drew1) | exact HB.out))) : w.heap.size ≤ gb101)); have n3_ := Aside0.mk ((by rw [hg]; exact (below_size (by repeat (first | (with_reducible first | exact HB.out | apply below_alloc | apply pw_below_drewN | apply below_drew1) | exact HB.out))) : w.heap.size ≤ gb101)); clear HB; have HB := n0_; have BK101 := n1_; have GW101 := n2_; have GE101 := n3_; clear n0_ n1_ n2_ n3_; clear hb hbox hg; have hcz15_0 : w14.cell? ⟨gb101, 0, none⟩ = some (.int .i32 a1_0) := (blk_cell BK101.out 0).trans rfl; have hcz15_1 : w14.cell? ⟨gb101, 1, none⟩ = some (.int .i64 a1_1) := (blk_cell BK101.out 1).trans rfl; have hcz15_2 : w14.cell? ⟨gb101, 2, none⟩ = some (.int .i64 a1_2) := (blk_cell BK101.out 2).trans rfl; have hcz15_3 : w14.cell? ⟨gb101, 3, none⟩ = some (.bool false) := (blk_cell BK101.out 3).trans rfl; have hfz15_0 := blk_frozen BK101.out 0; have hfz15_1 := blk_frozen BK101.out 1; have hfz15_2 := blk_frozen BK101.out 2; have hfz15_3 := blk_frozen BK101.out 3; have p5 : 0 ≤ (a1_1 : Int) := of_decide_eq_true (by first | (with_reducible assumption) | assumption); have q5 : a1_1 < (a0.size : Int) := of_decide_eq_true (by first | (with_reducible assumption) | assumption); have hx5 := bt_at a0 a1_1; replace p5 := eq_true p5; replace q5 := eq_true q5))
        (try simp only [Act.put, List.setIfInBounds_toArray, List.set_cons_zero, List.set_cons_succ])
        go_cut [23] (fun v23 wc => ∃ (kq : Nat) (x23_12 : Bool), v23 = .bool x23_12 ∧ Aside0 (cognateref01_shown.j0 kq a0 (bt a0 a1_1) x23_12 a1_0 a1_1 a1_2 false = some r) ∧ Aside0 (kq ≤ k) ∧ Aside0 (wc.heap[gb101]? = some (.cells #[.int .i32 a1_0, .int .i64 a1_1, .int .i64 a1_2, .bool false] 35 (0, 0))) ∧ Aside0 (Below w.heap.size w wc))
        case first =>
          have H := HC13.out
          clear HC13
          by_cases c16 : (bt a0 a1_1) = 34
          · rw [if_pos c16] at H
            have c16b0 : ((bt a0 a1_1) == 34) = true := beq_iff_eq.mpr c16
            have c16b1 : ((bt a0 a1_1) != 34) = false := bne_eq_false_iff_eq.mpr c16
            clear c16
            (first | rw [c16b0] | (simp only [i64_w, i32_w]; rw [c16b0]) | skip)
            have H' := Aside0.mk H
            clear H
            go_wp2
            go_meet
            case rel => exact ⟨_, (true), (by first | rfl | (simp; done) | (simp [*]; done)), H', ⟨by first | omega | exact Nat.le_refl _⟩, ⟨by (with_reducible repeat (first | refine blk_drewN ?_ _ | refine blk_drew ?_ | refine blk_alloc ?_ _)); exact BK101.out⟩, ⟨by repeat (first | (with_reducible first | exact HB.out | apply below_alloc | apply pw_below_drewN | apply below_drew1 | refine below_set ?_ GE101.out) | exact HB.out)⟩⟩
          · rw [if_neg c16] at H
            have c16b0 : ((bt a0 a1_1) == 34) = false := beq_eq_false_iff_ne.mpr c16
            have c16b1 : ((bt a0 a1_1) != 34) = true := bne_iff_ne.mpr c16
            (first | rw [c16b0] | (simp only [i64_w, i32_w]; rw [c16b0]) | skip)
            have H' := Aside0.mk H
            clear H
            go_wp2
            go_meet
            case rel => exact ⟨_, (((bt a0 a1_1) == 92)), (by first | rfl | (simp; done) | (simp [*]; done)), H', ⟨by first | omega | exact Nat.le_refl _⟩, ⟨by (with_reducible repeat (first | refine blk_drewN ?_ _ | refine blk_drew ?_ | refine blk_alloc ?_ _)); exact BK101.out⟩, ⟨by repeat (first | (with_reducible first | exact HB.out | apply below_alloc | apply pw_below_drewN | apply below_drew1 | refine below_set ?_ GE101.out) | exact HB.out)⟩⟩
        case rest =>
          clear HC13
          try clear c1
          try clear p2
          try clear c3
          try clear c3b0
          try clear c4
          try clear c4b0
          try clear c5
          try clear p5
          try clear q5
          try clear hx5
          try clear c6
          try clear p6
          try clear c8
          try clear c8b0
          try clear c8b1
          try clear c8b2
          try clear c10
          try clear c10b0
          try clear c10b1
          try clear c10b2
          try clear c16
          try clear c16b0
          try clear c16b1
          try clear hcz12_0
          try clear hcz12_1
          try clear hcz12_2
          try clear hcz12_3
          try clear hcz15_0
          try clear hcz15_1
          try clear hcz15_2
          try clear hcz15_3
          try clear hfz12_0
          try clear hfz12_1
          try clear hfz12_2
          try clear hfz12_3
          try clear hfz15_0
          try clear hfz15_1
          try clear hfz15_2
          try clear hfz15_3
          try clear p5
          try clear q5
          obtain ⟨kq, x23_12, rfl, HA, HJ12, BK101, HB⟩ := hcut
          cases kq with
          | zero => exact absurd HA.out (by simp [cognateref01_shown.j0])
          | succ kj12 =>
            have H := HA.out
            clear HA
            simp only [cognateref01_shown.j0] at H
            by_cases c17 : x23_12 = true
            · subst c17
              have H1 : (if 0 ≤ a1_1 then (if a1_1 ≤ (wrap64 (a1_1 + 1)) then (if (wrap64 (a1_1 + 1)) ≤ (a0.size : Int) then (if 1 + (a0.extract (a1_1 : Int).toNat ((wrap64 (a1_1 + 1)) : Int).toNat).size ≤ 9223372036854775807 then (some ((⟨#[92]⟩ : ByteArray) ++ (a0.extract (a1_1 : Int).toNat ((wrap64 (a1_1 + 1)) : Int).toNat))) else (none)) else (none)) else (none)) else (none)) = some r := by rw [if_pos rfl] at H; exact H
              clear H
              have H := H1
              clear H1
              by_cases c18 : 0 ≤ a1_1
              · rw [if_pos c18] at H
                have c18b0 := eq_true c18
                have c18b1 : decide (0 ≤ a1_1) = true := decide_eq_true c18
                clear c18
                by_cases c19 : a1_1 ≤ (wrap64 (a1_1 + 1))
                · rw [if_pos c19] at H
                  have c19b0 := eq_true c19
                  have c19b1 : decide (a1_1 ≤ (wrap64 (a1_1 + 1))) = true := decide_eq_true c19
                  by_cases c20 : (wrap64 (a1_1 + 1)) ≤ (a0.size : Int)
                  · rw [if_pos c20] at H
                    have c20b0 := eq_true c20
                    have c20b1 : decide ((wrap64 (a1_1 + 1)) ≤ (a0.size : Int)) = true := decide_eq_true c20
                    by_cases c21 : 1 + (a0.extract (a1_1 : Int).toNat ((wrap64 (a1_1 + 1)) : Int).toNat).size ≤ 9223372036854775807
                    · rw [if_pos c21] at H
                      have c21b0 := eq_true c21
                      have c21b1 : decide (1 + (a0.extract (a1_1 : Int).toNat ((wrap64 (a1_1 + 1)) : Int).toNat).size ≤ 9223372036854775807) = true := decide_eq_true c21
                      try have c21b2 : (9223372036854775807 < 1 + (a0.extract (a1_1 : Int).toNat ((wrap64 (a1_1 + 1)) : Int).toNat).size) = False := eq_false (Nat.not_lt.2 c21)
                      try have c21b6 : (9223372036854775807 < 1 + (((wrap64 (a1_1 + 1)) : Int).toNat - (a1_1 : Int).toNat)) = False := eq_false (by have z := c21; simp only [ByteArray.size_extract] at z; omega)
                      obtain rfl := Option.some.inj H
                      have hcz22_0 : wc.cell? ⟨gb101, 0, none⟩ = some (.int .i32 a1_0) := (blk_cell BK101.out 0).trans rfl
                      have hcz22_1 : wc.cell? ⟨gb101, 1, none⟩ = some (.int .i64 a1_1) := (blk_cell BK101.out 1).trans rfl
                      have hcz22_2 : wc.cell? ⟨gb101, 2, none⟩ = some (.int .i64 a1_2) := (blk_cell BK101.out 2).trans rfl
                      have hcz22_3 : wc.cell? ⟨gb101, 3, none⟩ = some (.bool false) := (blk_cell BK101.out 3).trans rfl
                      have hfz22_0 := blk_frozen BK101.out 0
                      have hfz22_1 := blk_frozen BK101.out 1
                      have hfz22_2 := blk_frozen BK101.out 2
                      have hfz22_3 := blk_frozen BK101.out 3
                      go_wp2
                      go_ret
                      exact ⟨by first | rfl | (simp [errW_none, errW_some] <;> rfl) | (simp [*, errW_none, errW_some] <;> rfl), by repeat (first | (with_reducible first | exact HB.out | apply below_alloc | apply pw_below_drewN | apply below_drew1 | refine below_set ?_ GE101.out) | exact HB.out)⟩
                    · rw [if_neg c21] at H
                      exact absurd H (by simp)
                  · rw [if_neg c20] at H
                    exact absurd H (by simp)
                · rw [if_neg c19] at H
                  exact absurd H (by simp)
              · rw [if_neg c18] at H
                exact absurd H (by simp)
            · replace c17 := Bool.eq_false_iff.mpr c17
              subst c17
              have H1 : (if (bt a0 a1_1) ≥ 32 then (if (bt a0 a1_1) ≤ 126 then (if 0 ≤ a1_1 then (if a1_1 ≤ (wrap64 (a1_1 + 1)) then (if (wrap64 (a1_1 + 1)) ≤ (a0.size : Int) then (some (a0.extract (a1_1 : Int).toNat ((wrap64 (a1_1 + 1)) : Int).toNat)) else (none)) else (none)) else (none)) else ((cognateref01_number.f kj12 (wrap64 (a1_0))).bind fun t104 => (if 2 + t104.size ≤ 9223372036854775807 then (if ((⟨#[92, 117]⟩ : ByteArray) ++ t104).size + 1 ≤ 9223372036854775807 then (some (((⟨#[92, 117]⟩ : ByteArray) ++ t104) ++ (⟨#[59]⟩ : ByteArray))) else (none)) else (none)))) else ((cognateref01_number.f kj12 (wrap64 (a1_0))).bind fun t105 => (if 2 + t105.size ≤ 9223372036854775807 then (if ((⟨#[92, 117]⟩ : ByteArray) ++ t105).size + 1 ≤ 9223372036854775807 then (some (((⟨#[92, 117]⟩ : ByteArray) ++ t105) ++ (⟨#[59]⟩ : ByteArray))) else (none)) else (none)))) = some r := by rw [if_neg (show ¬ (false = true) by decide)] at H; exact H
              clear H
              have H := H1
              clear H1
              by_cases c23 : (bt a0 a1_1) ≥ 32
              · rw [if_pos c23] at H
                have c23b0 : decide (32 ≤ (bt a0 a1_1)) = true := decide_eq_true c23
                clear c23
                by_cases c24 : (bt a0 a1_1) ≤ 126
                · rw [if_pos c24] at H
                  have c24b0 : decide ((bt a0 a1_1) ≤ 126) = true := decide_eq_true c24
                  clear c24
                  by_cases c25 : 0 ≤ a1_1
                  · rw [if_pos c25] at H
                    have c25b0 := eq_true c25
                    have c25b1 : decide (0 ≤ a1_1) = true := decide_eq_true c25
                    clear c25
                    by_cases c26 : a1_1 ≤ (wrap64 (a1_1 + 1))
                    · rw [if_pos c26] at H
                      have c26b0 := eq_true c26
                      have c26b1 : decide (a1_1 ≤ (wrap64 (a1_1 + 1))) = true := decide_eq_true c26
                      by_cases c27 : (wrap64 (a1_1 + 1)) ≤ (a0.size : Int)
                      · rw [if_pos c27] at H
                        have c27b0 := eq_true c27
                        have c27b1 : decide ((wrap64 (a1_1 + 1)) ≤ (a0.size : Int)) = true := decide_eq_true c27
                        obtain rfl := Option.some.inj H
                        have hcz28_0 : wc.cell? ⟨gb101, 0, none⟩ = some (.int .i32 a1_0) := (blk_cell BK101.out 0).trans rfl
                        have hcz28_1 : wc.cell? ⟨gb101, 1, none⟩ = some (.int .i64 a1_1) := (blk_cell BK101.out 1).trans rfl
                        have hcz28_2 : wc.cell? ⟨gb101, 2, none⟩ = some (.int .i64 a1_2) := (blk_cell BK101.out 2).trans rfl
                        have hcz28_3 : wc.cell? ⟨gb101, 3, none⟩ = some (.bool false) := (blk_cell BK101.out 3).trans rfl
                        have hfz28_0 := blk_frozen BK101.out 0
                        have hfz28_1 := blk_frozen BK101.out 1
                        have hfz28_2 := blk_frozen BK101.out 2
                        have hfz28_3 := blk_frozen BK101.out 3
                        go_wp2
                        go_ret
                        exact ⟨by first | rfl | (simp [errW_none, errW_some] <;> rfl) | (simp [*, errW_none, errW_some] <;> rfl), by repeat (first | (with_reducible first | exact HB.out | apply below_alloc | apply pw_below_drewN | apply below_drew1 | refine below_set ?_ GE101.out) | exact HB.out)⟩
                      · rw [if_neg c27] at H
                        exact absurd H (by simp)
                    · rw [if_neg c26] at H
                      exact absurd H (by simp)
                  · rw [if_neg c25] at H
                    exact absurd H (by simp)
                · rw [if_neg c24] at H
                  have c24b0 : decide ((bt a0 a1_1) ≤ 126) = false := decide_eq_false c24
                  clear c24
                  replace H := Option.bind_eq_some_iff.mp H
                  obtain ⟨t104, A290, H⟩ := H
                  replace H : (if 2 + t104.size ≤ 9223372036854775807 then (if ((⟨#[92, 117]⟩ : ByteArray) ++ t104).size + 1 ≤ 9223372036854775807 then (some (((⟨#[92, 117]⟩ : ByteArray) ++ t104) ++ (⟨#[59]⟩ : ByteArray))) else (none)) else (none)) = some r := H
                  have A29 := Aside0.mk A290
                  clear A290
                  by_cases c30 : 2 + t104.size ≤ 9223372036854775807
                  · rw [if_pos c30] at H
                    have c30b0 := eq_true c30
                    have c30b1 : decide (2 + t104.size ≤ 9223372036854775807) = true := decide_eq_true c30
                    try have c30b2 : (9223372036854775807 < 2 + t104.size) = False := eq_false (Nat.not_lt.2 c30)
                    by_cases c31 : ((⟨#[92, 117]⟩ : ByteArray) ++ t104).size + 1 ≤ 9223372036854775807
                    · rw [if_pos c31] at H
                      have c31b0 := eq_true c31
                      have c31b1 : decide (((⟨#[92, 117]⟩ : ByteArray) ++ t104).size + 1 ≤ 9223372036854775807) = true := decide_eq_true c31
                      try have c31b2 : (9223372036854775807 < ((⟨#[92, 117]⟩ : ByteArray) ++ t104).size + 1) = False := eq_false (Nat.not_lt.2 c31)
                      try have c31b5 : (9223372036854775807 < 2 + t104.size + 1) = False := eq_false (Nat.not_lt.2 (by have z := c31; simp only [ByteArray.size_append] at z; exact z))
                      obtain rfl := Option.some.inj H
                      have hcz32_0 : wc.cell? ⟨gb101, 0, none⟩ = some (.int .i32 a1_0) := (blk_cell BK101.out 0).trans rfl
                      have hcz32_1 : wc.cell? ⟨gb101, 1, none⟩ = some (.int .i64 a1_1) := (blk_cell BK101.out 1).trans rfl
                      have hcz32_2 : wc.cell? ⟨gb101, 2, none⟩ = some (.int .i64 a1_2) := (blk_cell BK101.out 2).trans rfl
                      have hcz32_3 : wc.cell? ⟨gb101, 3, none⟩ = some (.bool false) := (blk_cell BK101.out 3).trans rfl
                      have hfz32_0 := blk_frozen BK101.out 0
                      have hfz32_1 := blk_frozen BK101.out 1
                      have hfz32_2 := blk_frozen BK101.out 2
                      have hfz32_3 := blk_frozen BK101.out 3
                      go_wp2_with (first | ((with_reducible refine gate_callee (f := 64) rfl ?_); refine goesL_ (some 55) rfl rfl Tryd.func64 (by kernel_rfl) rfl #[.int .i64 (wrap64 (a1_0))] rfl (by (try simp only [List.map_toArray, List.map_cons, List.map_nil]); first | done | rfl | (simp only [List.length_drop, List.length_take]; rfl)) ?_; (with_reducible refine (cognateref01_number.calls kj12 (wrap64 (a1_0)) t104 _ A29.out).mono ?_); rintro e w' ⟨rfl, ⟨nd, rfl⟩⟩; refine ⟨_, rfl, ?_⟩))
                      go_ret
                      exact ⟨by first | rfl | (simp [errW_none, errW_some] <;> rfl) | (simp [*, errW_none, errW_some] <;> rfl), by repeat (first | (with_reducible first | exact HB.out | apply below_alloc | apply pw_below_drewN | apply below_drew1 | refine below_set ?_ GE101.out) | exact HB.out)⟩
                    · rw [if_neg c31] at H
                      exact absurd H (by simp)
                  · rw [if_neg c30] at H
                    exact absurd H (by simp)
              · rw [if_neg c23] at H
                have c23b0 : decide (32 ≤ (bt a0 a1_1)) = false := decide_eq_false c23
                clear c23
                replace H := Option.bind_eq_some_iff.mp H
                obtain ⟨t105, A330, H⟩ := H
                replace H : (if 2 + t105.size ≤ 9223372036854775807 then (if ((⟨#[92, 117]⟩ : ByteArray) ++ t105).size + 1 ≤ 9223372036854775807 then (some (((⟨#[92, 117]⟩ : ByteArray) ++ t105) ++ (⟨#[59]⟩ : ByteArray))) else (none)) else (none)) = some r := H
                have A33 := Aside0.mk A330
                clear A330
                by_cases c34 : 2 + t105.size ≤ 9223372036854775807
                · rw [if_pos c34] at H
                  have c34b0 := eq_true c34
                  have c34b1 : decide (2 + t105.size ≤ 9223372036854775807) = true := decide_eq_true c34
                  try have c34b2 : (9223372036854775807 < 2 + t105.size) = False := eq_false (Nat.not_lt.2 c34)
                  by_cases c35 : ((⟨#[92, 117]⟩ : ByteArray) ++ t105).size + 1 ≤ 9223372036854775807
                  · rw [if_pos c35] at H
                    have c35b0 := eq_true c35
                    have c35b1 : decide (((⟨#[92, 117]⟩ : ByteArray) ++ t105).size + 1 ≤ 9223372036854775807) = true := decide_eq_true c35
                    try have c35b2 : (9223372036854775807 < ((⟨#[92, 117]⟩ : ByteArray) ++ t105).size + 1) = False := eq_false (Nat.not_lt.2 c35)
                    try have c35b5 : (9223372036854775807 < 2 + t105.size + 1) = False := eq_false (Nat.not_lt.2 (by have z := c35; simp only [ByteArray.size_append] at z; exact z))
                    obtain rfl := Option.some.inj H
                    have hcz36_0 : wc.cell? ⟨gb101, 0, none⟩ = some (.int .i32 a1_0) := (blk_cell BK101.out 0).trans rfl
                    have hcz36_1 : wc.cell? ⟨gb101, 1, none⟩ = some (.int .i64 a1_1) := (blk_cell BK101.out 1).trans rfl
                    have hcz36_2 : wc.cell? ⟨gb101, 2, none⟩ = some (.int .i64 a1_2) := (blk_cell BK101.out 2).trans rfl
                    have hcz36_3 : wc.cell? ⟨gb101, 3, none⟩ = some (.bool false) := (blk_cell BK101.out 3).trans rfl
                    have hfz36_0 := blk_frozen BK101.out 0
                    have hfz36_1 := blk_frozen BK101.out 1
                    have hfz36_2 := blk_frozen BK101.out 2
                    have hfz36_3 := blk_frozen BK101.out 3
                    go_wp2_with (first | ((with_reducible refine gate_callee (f := 64) rfl ?_); refine goesL_ (some 55) rfl rfl Tryd.func64 (by kernel_rfl) rfl #[.int .i64 (wrap64 (a1_0))] rfl (by (try simp only [List.map_toArray, List.map_cons, List.map_nil]); first | done | rfl | (simp only [List.length_drop, List.length_take]; rfl)) ?_; (with_reducible refine (cognateref01_number.calls kj12 (wrap64 (a1_0)) t105 _ A33.out).mono ?_); rintro e w' ⟨rfl, ⟨nd, rfl⟩⟩; refine ⟨_, rfl, ?_⟩))
                    go_ret
                    exact ⟨by first | rfl | (simp [errW_none, errW_some] <;> rfl) | (simp [*, errW_none, errW_some] <;> rfl), by repeat (first | (with_reducible first | exact HB.out | apply below_alloc | apply pw_below_drewN | apply below_drew1 | refine below_set ?_ GE101.out) | exact HB.out)⟩
                  · rw [if_neg c35] at H
                    exact absurd H (by simp)
                · rw [if_neg c34] at H
                  exact absurd H (by simp)
    · rw [if_neg c4] at H
      exact absurd H (by simp)
  · rw [if_neg c3] at H
    exact absurd H (by simp)

end Go.Proofs.YtglaagoblcpggaaDoor.R
