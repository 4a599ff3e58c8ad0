-- Written by my program oprint.py (a driver round the kit's printer) out of the translation. Lean checks it.
import Derived.Test.YtglaagoblcpggaaDoorK
import Derived.Test.YtglaagoblcpggaaDoorHU
import Derived.Test.YtglaagoblcpggaaDoorTabs
namespace Go.Proofs.YtglaagoblcpggaaDoor.R
open Go.RowKit Go.Proofs.YtglaagoblcpggaaDoorW.PrintWords Go.Proofs.YtglaagoblcpggaaDoorW.PrintLast Go.Proofs.YtglaagoblcpggaaDoorW.PrintMore
attribute [local go_sem] max2_int min2_int max_two min_two max_three min_three max_four min_four   -- for this text's walks alone
set_option linter.unusedVariables false
set_option linter.unusedSimpArgs false

/-! ### runes_Less: function 10 -/
mutual
def runes_Less.l0 : Nat → ByteArray → ByteArray → Option (Bool)
  | 0, _, _ => none
  | k + 1, x0, x1 => if x0.toList = ([] : List UInt8) then (runes_Less.j1 k x0 x1 false) else (runes_Less.j1 k x0 x1 (x1.toList != ([] : List UInt8)))
def runes_Less.j1 : Nat → ByteArray → ByteArray → Bool → Option (Bool)
  | 0, _, _, _ => none
  | k + 1, x0, x1, x16 => if x16 = true then ((utf8_DecodeRuneInString.f x0).bind fun bt101 => ((utf8_DecodeRuneInString.f x1).bind fun bt103 => (if bt101.1 = 65533 then (runes_Less.j2 k x0 x1 bt101.2 bt103.1 bt103.2 (wrap64 (bt101.1)) (wrap64 (bt103.1)) (bt101.2 == 1)) else (runes_Less.j2 k x0 x1 bt101.2 bt103.1 bt103.2 (wrap64 (bt101.1)) (wrap64 (bt103.1)) false)))) else (if x0.toList = ([] : List UInt8) then (some (x1.toList != ([] : List UInt8))) else (some false))
def runes_Less.j2 : Nat → ByteArray → ByteArray → Int → Int → Int → Int → Int → Bool → Option (Bool)
  | 0, _, _, _, _, _, _, _, _ => none
  | k + 1, x0, x1, x6, x7, x8, x9, x10, x36 => if x36 = true then (if 0 < (x0.size : Int) then (runes_Less.j3 k x0 x1 x6 x7 x8 (wrap64 (1114112 + (wrap64 (bt x0 0)))) x10) else (none)) else (runes_Less.j3 k x0 x1 x6 x7 x8 x9 x10)
def runes_Less.j3 : Nat → ByteArray → ByteArray → Int → Int → Int → Int → Int → Option (Bool)
  | 0, _, _, _, _, _, _, _ => none
  | k + 1, x0, x1, x6, x7, x8, x9, x10 => if x7 = 65533 then (runes_Less.j4 k x0 x1 x6 x8 x9 x10 (x8 == 1)) else (runes_Less.j4 k x0 x1 x6 x8 x9 x10 false)
def runes_Less.j4 : Nat → ByteArray → ByteArray → Int → Int → Int → Int → Bool → Option (Bool)
  | 0, _, _, _, _, _, _, _ => none
  | k + 1, x0, x1, x6, x8, x9, x10, x46 => if x46 = true then (if 0 < (x1.size : Int) then (if x9 = (wrap64 (1114112 + (wrap64 (bt x1 0)))) then (if 0 ≤ x6 then (if x6 ≤ (x0.size : Int) then (if 0 ≤ x8 then (if x8 ≤ (x1.size : Int) then (runes_Less.l0 k (x0.extract (x6 : Int).toNat x0.size) (x1.extract (x8 : Int).toNat x1.size)) else (none)) else (none)) else (none)) else (none)) else (some (decide (x9 < (wrap64 (1114112 + (wrap64 (bt x1 0)))))))) else (none)) else (if x9 = x10 then (if 0 ≤ x6 then (if x6 ≤ (x0.size : Int) then (if 0 ≤ x8 then (if x8 ≤ (x1.size : Int) then (runes_Less.l0 k (x0.extract (x6 : Int).toNat x0.size) (x1.extract (x8 : Int).toNat x1.size)) else (none)) else (none)) else (none)) else (none)) else (some (decide (x9 < x10))))
end
def runes_Less.f (k : Nat) (a0 : ByteArray) (a1 : ByteArray) : Option (Bool) := runes_Less.l0 k a0 a1
theorem runes_Less.mono_l : ∀ k, (∀ y0 y1, LeO (runes_Less.l0 k y0 y1) (runes_Less.l0 (k + 1) y0 y1)) ∧ (∀ y0 y1 y2, LeO (runes_Less.j1 k y0 y1 y2) (runes_Less.j1 (k + 1) y0 y1 y2)) ∧ (∀ y0 y1 y2 y3 y4 y5 y6 y7, LeO (runes_Less.j2 k y0 y1 y2 y3 y4 y5 y6 y7) (runes_Less.j2 (k + 1) y0 y1 y2 y3 y4 y5 y6 y7)) ∧ (∀ y0 y1 y2 y3 y4 y5 y6, LeO (runes_Less.j3 k y0 y1 y2 y3 y4 y5 y6) (runes_Less.j3 (k + 1) y0 y1 y2 y3 y4 y5 y6)) ∧ (∀ y0 y1 y2 y3 y4 y5 y6, LeO (runes_Less.j4 k y0 y1 y2 y3 y4 y5 y6) (runes_Less.j4 (k + 1) y0 y1 y2 y3 y4 y5 y6))
  | 0 => ⟨fun _ _ r h => by simp [runes_Less.l0] at h, fun _ _ _ r h => by simp [runes_Less.j1] at h, fun _ _ _ _ _ _ _ _ r h => by simp [runes_Less.j2] at h, fun _ _ _ _ _ _ _ r h => by simp [runes_Less.j3] at h, fun _ _ _ _ _ _ _ r h => by simp [runes_Less.j4] at h⟩
  | k + 1 => by
    obtain ⟨ih0, ih1, ih2, ih3, ih4⟩ := runes_Less.mono_l k
    refine ⟨?_, ?_, ?_, ?_, ?_⟩
    · intro y0 y1
      unfold runes_Less.l0
      repeat' first
      | (with_reducible exact ih0 _ _)
      | (with_reducible exact ih1 _ _ _)
      | (with_reducible exact ih2 _ _ _ _ _ _ _ _)
      | (with_reducible exact ih3 _ _ _ _ _ _ _)
      | (with_reducible exact ih4 _ _ _ _ _ _ _)
      | (with_reducible exact LeO.refl _)
      | (with_reducible exact LeO.none _)
      | (with_reducible refine LeO.ite ?_ ?_)
      | (with_reducible refine LeO.bind ?_ (fun _ => ?_))
      | exact ih0 _ _
      | exact ih1 _ _ _
      | exact ih2 _ _ _ _ _ _ _ _
      | exact ih3 _ _ _ _ _ _ _
      | exact ih4 _ _ _ _ _ _ _
      | exact LeO.none _
      | refine LeO.ite ?_ ?_
      | refine LeO.bind ?_ (fun _ => ?_)
    · intro y0 y1 y2
      unfold runes_Less.j1
      repeat' first
      | (with_reducible exact ih0 _ _)
      | (with_reducible exact ih1 _ _ _)
      | (with_reducible exact ih2 _ _ _ _ _ _ _ _)
      | (with_reducible exact ih3 _ _ _ _ _ _ _)
      | (with_reducible exact ih4 _ _ _ _ _ _ _)
      | (with_reducible exact LeO.refl _)
      | (with_reducible exact LeO.none _)
      | (with_reducible refine LeO.ite ?_ ?_)
      | (with_reducible refine LeO.bind ?_ (fun _ => ?_))
      | exact ih0 _ _
      | exact ih1 _ _ _
      | exact ih2 _ _ _ _ _ _ _ _
      | exact ih3 _ _ _ _ _ _ _
      | exact ih4 _ _ _ _ _ _ _
      | exact LeO.none _
      | refine LeO.ite ?_ ?_
      | refine LeO.bind ?_ (fun _ => ?_)
    · intro y0 y1 y2 y3 y4 y5 y6 y7
      unfold runes_Less.j2
      repeat' first
      | (with_reducible exact ih0 _ _)
      | (with_reducible exact ih1 _ _ _)
      | (with_reducible exact ih2 _ _ _ _ _ _ _ _)
      | (with_reducible exact ih3 _ _ _ _ _ _ _)
      | (with_reducible exact ih4 _ _ _ _ _ _ _)
      | (with_reducible exact LeO.refl _)
      | (with_reducible exact LeO.none _)
      | (with_reducible refine LeO.ite ?_ ?_)
      | (with_reducible refine LeO.bind ?_ (fun _ => ?_))
      | exact ih0 _ _
      | exact ih1 _ _ _
      | exact ih2 _ _ _ _ _ _ _ _
      | exact ih3 _ _ _ _ _ _ _
      | exact ih4 _ _ _ _ _ _ _
      | exact LeO.none _
      | refine LeO.ite ?_ ?_
      | refine LeO.bind ?_ (fun _ => ?_)
    · intro y0 y1 y2 y3 y4 y5 y6
      unfold runes_Less.j3
      repeat' first
      | (with_reducible exact ih0 _ _)
      | (with_reducible exact ih1 _ _ _)
      | (with_reducible exact ih2 _ _ _ _ _ _ _ _)
      | (with_reducible exact ih3 _ _ _ _ _ _ _)
      | (with_reducible exact ih4 _ _ _ _ _ _ _)
      | (with_reducible exact LeO.refl _)
      | (with_reducible exact LeO.none _)
      | (with_reducible refine LeO.ite ?_ ?_)
      | (with_reducible refine LeO.bind ?_ (fun _ => ?_))
      | exact ih0 _ _
      | exact ih1 _ _ _
      | exact ih2 _ _ _ _ _ _ _ _
      | exact ih3 _ _ _ _ _ _ _
      | exact ih4 _ _ _ _ _ _ _
      | exact LeO.none _
      | refine LeO.ite ?_ ?_
      | refine LeO.bind ?_ (fun _ => ?_)
    · intro y0 y1 y2 y3 y4 y5 y6
      unfold runes_Less.j4
      repeat' first
      | (with_reducible exact ih0 _ _)
      | (with_reducible exact ih1 _ _ _)
      | (with_reducible exact ih2 _ _ _ _ _ _ _ _)
      | (with_reducible exact ih3 _ _ _ _ _ _ _)
      | (with_reducible exact ih4 _ _ _ _ _ _ _)
      | (with_reducible exact LeO.refl _)
      | (with_reducible exact LeO.none _)
      | (with_reducible refine LeO.ite ?_ ?_)
      | (with_reducible refine LeO.bind ?_ (fun _ => ?_))
      | exact ih0 _ _
      | exact ih1 _ _ _
      | exact ih2 _ _ _ _ _ _ _ _
      | exact ih3 _ _ _ _ _ _ _
      | exact ih4 _ _ _ _ _ _ _
      | exact LeO.none _
      | refine LeO.ite ?_ ?_
      | refine LeO.bind ?_ (fun _ => ?_)
theorem runes_Less.mono : ∀ a0 a1 k, LeO (runes_Less.f k a0 a1) (runes_Less.f (k + 1) a0 a1) := by
  intro a0 a1 k
  obtain ⟨ih0, ih1, ih2, ih3, ih4⟩ := runes_Less.mono_l k
  unfold runes_Less.f
  repeat' first
      | (with_reducible exact ih0 _ _)
      | (with_reducible exact ih1 _ _ _)
      | (with_reducible exact ih2 _ _ _ _ _ _ _ _)
      | (with_reducible exact ih3 _ _ _ _ _ _ _)
      | (with_reducible exact ih4 _ _ _ _ _ _ _)
      | (with_reducible exact LeO.refl _)
      | (with_reducible exact LeO.none _)
      | (with_reducible refine LeO.ite ?_ ?_)
      | (with_reducible refine LeO.bind ?_ (fun _ => ?_))
      | exact ih0 _ _
      | exact ih1 _ _ _
      | exact ih2 _ _ _ _ _ _ _ _
      | exact ih3 _ _ _ _ _ _ _
      | exact ih4 _ _ _ _ _ _ _
      | exact LeO.none _
      | refine LeO.ite ?_ ?_
      | refine LeO.bind ?_ (fun _ => ?_)
set_option maxHeartbeats 8000000 in
set_option maxRecDepth 100000 in
theorem runes_Less.calls (k : Nat) (a0 : ByteArray) (a1 : ByteArray) (r : Bool) (w : World) (hTU : TabU w) (h : runes_Less.f k a0 a1 = some r) :
    Calls Tryd.prog 10 #[.string a0, .string a1] w fun e w' => e = .returned (.bool r) ∧ Below w.heap.size w w' := by
  have HB := Aside0.mk (Below.refl w.heap.size w)
  have H : (runes_Less.l0 k a0 a1) = some r := h
  clear h
  have HTU := Aside0.mk hTU
  clear hTU
  have H' := Aside0.mk H
  clear H
  go_enter Tryd.func10, Tryd.ntmps10
  go_wp2
  repeat (go_quiet (fail); try go_wp2)
  go_loopg [0, 1] k (fun kq v0 v1 w' => ∃ (x0_1 : ByteArray) (x1_1 : ByteArray), v0 = .string x0_1 ∧ v1 = .string x1_1 ∧ Aside0 (runes_Less.l0 kq x0_1 x1_1 = some r) ∧ Aside0 (kq ≤ k) ∧ Aside0 (Below w.heap.size w w'))
  case atStart => exact ⟨(a0), (a1), (by first | rfl | (simp; done) | (simp [*]; done) | (simp [bne_nil_bytes]; done)), (by first | rfl | (simp; done) | (simp [*]; done) | (simp [bne_nil_bytes]; done)), H', ⟨Nat.le_refl _⟩, ⟨by repeat (first | (with_reducible first | exact HB.out | apply below_alloc | apply pw_below_drewN | apply below_drew1) | exact HB.out)⟩⟩
  case round =>
    clear H'
    try clear c1
    try clear p2
    obtain ⟨x0_1, x1_1, rfl, rfl, HA, HK1, HB⟩ := hrel
    cases gk with
    | zero => exact absurd HA.out (by simp [runes_Less.l0])
    | succ k1 =>
      have H := HA.out
      clear HA
      simp only [runes_Less.l0] at H
      have HC3 := Aside0.mk H
      clear H
      go_upto_region 1 with (fail)
      repeat (go_quiet (fail); go_upto_region 1 with (fail))
      go_cut [16] (fun v16 wc => ∃ (kq : Nat) (x16_2 : Bool), v16 = .bool x16_2 ∧ Aside0 (runes_Less.j1 kq x0_1 x1_1 x16_2 = some r) ∧ Aside0 (kq ≤ k1) ∧ Aside0 (Below w.heap.size w wc))
      case first =>
        have H := HC3.out
        clear HC3
        by_cases c4 : x0_1.toList = ([] : List UInt8)
        · rw [if_pos c4] at H
          have c4b0 : (x0_1.toList == ([] : List UInt8)) = true := beq_iff_eq.mpr c4
          have c4b1 : (x0_1.toList != ([] : List UInt8)) = false := bne_eq_false_iff_eq.mpr c4
          clear c4
          (first | rw [c4b0] | (simp only [i64_w, i32_w]; rw [c4b0]) | skip)
          have H' := Aside0.mk H
          clear H
          go_wp2
          repeat (go_quiet (fail); try go_wp2)
          go_meet
          case rel => exact ⟨_, (false), (by first | rfl | (simp; done) | (simp [*]; done) | (simp [bne_nil_bytes]; done)), H', ⟨by have := HK1.out; first | omega | exact Nat.le_refl _⟩, ⟨by repeat (first | (with_reducible first | exact HB.out | apply below_alloc | apply pw_below_drewN | apply below_drew1) | exact HB.out)⟩⟩
        · rw [if_neg c4] at H
          have c4b0 : (x0_1.toList == ([] : List UInt8)) = false := beq_eq_false_iff_ne.mpr c4
          have c4b1 : (x0_1.toList != ([] : List UInt8)) = true := bne_iff_ne.mpr c4
          (first | rw [c4b0] | (simp only [i64_w, i32_w]; rw [c4b0]) | skip)
          have H' := Aside0.mk H
          clear H
          go_wp2
          repeat (go_quiet (fail); try go_wp2)
          go_meet
          case rel => exact ⟨_, ((x1_1.toList != ([] : List UInt8))), (by first | rfl | (simp; done) | (simp [*]; done) | (simp [bne_nil_bytes]; done)), H', ⟨by have := HK1.out; first | omega | exact Nat.le_refl _⟩, ⟨by repeat (first | (with_reducible first | exact HB.out | apply below_alloc | apply pw_below_drewN | apply below_drew1) | exact HB.out)⟩⟩
      case rest =>
        clear HC3
        try clear c1
        try clear p2
        try clear c4
        try clear c4b0
        try clear c4b1
        try clear p2
        obtain ⟨kq, x16_2, rfl, HA, HJ2, HB⟩ := hcut
        cases kq with
        | zero => exact absurd HA.out (by simp [runes_Less.j1])
        | succ kj2 =>
          have H := HA.out
          clear HA
          simp only [runes_Less.j1] at H
          by_cases c5 : x16_2 = true
          · subst c5
            have H1 : ((utf8_DecodeRuneInString.f x0_1).bind fun bt101 => ((utf8_DecodeRuneInString.f x1_1).bind fun bt103 => (if bt101.1 = 65533 then (runes_Less.j2 kj2 x0_1 x1_1 bt101.2 bt103.1 bt103.2 (wrap64 (bt101.1)) (wrap64 (bt103.1)) (bt101.2 == 1)) else (runes_Less.j2 kj2 x0_1 x1_1 bt101.2 bt103.1 bt103.2 (wrap64 (bt101.1)) (wrap64 (bt103.1)) false)))) = some r := by rw [if_pos rfl] at H; exact H
            clear H
            have H := H1
            clear H1
            replace H := Option.bind_eq_some_iff.mp H
            obtain ⟨⟨t101, t102⟩, A60, H⟩ := H
            replace H : ((utf8_DecodeRuneInString.f x1_1).bind fun bt103 => (if t101 = 65533 then (runes_Less.j2 kj2 x0_1 x1_1 t102 bt103.1 bt103.2 (wrap64 (t101)) (wrap64 (bt103.1)) (t102 == 1)) else (runes_Less.j2 kj2 x0_1 x1_1 t102 bt103.1 bt103.2 (wrap64 (t101)) (wrap64 (bt103.1)) false))) = some r := H
            have A6 := Aside0.mk A60
            clear A60
            replace H := Option.bind_eq_some_iff.mp H
            obtain ⟨⟨t103, t104⟩, A70, H⟩ := H
            replace H : (if t101 = 65533 then (runes_Less.j2 kj2 x0_1 x1_1 t102 t103 t104 (wrap64 (t101)) (wrap64 (t103)) (t102 == 1)) else (runes_Less.j2 kj2 x0_1 x1_1 t102 t103 t104 (wrap64 (t101)) (wrap64 (t103)) false)) = some r := H
            have A7 := Aside0.mk A70
            clear A70
            have HC8 := Aside0.mk H
            clear H
            go_upto_region 5 with (first | (go_at_call 25; (with_reducible refine (utf8_DecodeRuneInString.calls x0_1 t101 t102 _ ?side1 A6.out).mono ?_); (case side1 => exact TabU.below HTU.out (by repeat (first | (with_reducible first | exact HB.out | apply below_alloc | apply pw_below_drewN | apply below_drew1) | exact HB.out))); rintro e w9 ⟨rfl, hb⟩; have n0_ := Aside0.mk (below_step (by repeat (first | (with_reducible first | exact HB.out | apply below_alloc | apply pw_below_drewN | apply below_drew1) | exact HB.out)) hb); clear HB; have HB := n0_; clear n0_; (try clear hb); (try clear hb2); (try clear hk); (try clear hi)) | (go_at_call 25; (with_reducible refine (utf8_DecodeRuneInString.calls x1_1 t103 t104 _ ?side1 A7.out).mono ?_); (case side1 => exact TabU.below HTU.out (by repeat (first | (with_reducible first | exact HB.out | apply below_alloc | apply pw_below_drewN | apply below_drew1) | exact HB.out))); rintro e w10 ⟨rfl, hb⟩; have n0_ := Aside0.mk (below_step (by repeat (first | (with_reducible first | exact HB.out | apply below_alloc | apply pw_below_drewN | apply below_drew1) | exact HB.out)) hb); clear HB; have HB := n0_; clear n0_; (try clear hb); (try clear hb2); (try clear hk); (try clear hi)))
            repeat (go_quiet (first | (go_at_call 25; (with_reducible refine (utf8_DecodeRuneInString.calls x0_1 t101 t102 _ ?side1 A6.out).mono ?_); (case side1 => exact TabU.below HTU.out (by repeat (first | (with_reducible first | exact HB.out | apply below_alloc | apply pw_below_drewN | apply below_drew1) | exact HB.out))); rintro e w9 ⟨rfl, hb⟩; have n0_ := Aside0.mk (below_step (by repeat (first | (with_reducible first | exact HB.out | apply below_alloc | apply pw_below_drewN | apply below_drew1) | exact HB.out)) hb); clear HB; have HB := n0_; clear n0_; (try clear hb); (try clear hb2); (try clear hk); (try clear hi)) | (go_at_call 25; (with_reducible refine (utf8_DecodeRuneInString.calls x1_1 t103 t104 _ ?side1 A7.out).mono ?_); (case side1 => exact TabU.below HTU.out (by repeat (first | (with_reducible first | exact HB.out | apply below_alloc | apply pw_below_drewN | apply below_drew1) | exact HB.out))); rintro e w10 ⟨rfl, hb⟩; have n0_ := Aside0.mk (below_step (by repeat (first | (with_reducible first | exact HB.out | apply below_alloc | apply pw_below_drewN | apply below_drew1) | exact HB.out)) hb); clear HB; have HB := n0_; clear n0_; (try clear hb); (try clear hb2); (try clear hk); (try clear hi))); go_upto_region 5 with (first | (go_at_call 25; (with_reducible refine (utf8_DecodeRuneInString.calls x0_1 t101 t102 _ ?side1 A6.out).mono ?_); (case side1 => exact TabU.below HTU.out (by repeat (first | (with_reducible first | exact HB.out | apply below_alloc | apply pw_below_drewN | apply below_drew1) | exact HB.out))); rintro e w9 ⟨rfl, hb⟩; have n0_ := Aside0.mk (below_step (by repeat (first | (with_reducible first | exact HB.out | apply below_alloc | apply pw_below_drewN | apply below_drew1) | exact HB.out)) hb); clear HB; have HB := n0_; clear n0_; (try clear hb); (try clear hb2); (try clear hk); (try clear hi)) | (go_at_call 25; (with_reducible refine (utf8_DecodeRuneInString.calls x1_1 t103 t104 _ ?side1 A7.out).mono ?_); (case side1 => exact TabU.below HTU.out (by repeat (first | (with_reducible first | exact HB.out | apply below_alloc | apply pw_below_drewN | apply below_drew1) | exact HB.out))); rintro e w10 ⟨rfl, hb⟩; have n0_ := Aside0.mk (below_step (by repeat (first | (with_reducible first | exact HB.out | apply below_alloc | apply pw_below_drewN | apply below_drew1) | exact HB.out)) hb); clear HB; have HB := n0_; clear n0_; (try clear hb); (try clear hb2); (try clear hk); (try clear hi))))
            (try simp only [Act.put, List.setIfInBounds_toArray, List.set_cons_zero, List.set_cons_succ])
            go_cut [36] (fun v36 wc => ∃ (kq : Nat) (x36_7 : Bool), v36 = .bool x36_7 ∧ Aside0 (runes_Less.j2 kq x0_1 x1_1 t102 t103 t104 (wrap64 (t101)) (wrap64 (t103)) x36_7 = some r) ∧ Aside0 (kq ≤ kj2) ∧ Aside0 (Below w.heap.size w wc))
            case first =>
              have H := HC8.out
              clear HC8
              by_cases c11 : t101 = 65533
              · rw [if_pos c11] at H
                have c11b0 : (t101 == 65533) = true := beq_iff_eq.mpr c11
                have c11b1 : (t101 != 65533) = false := bne_eq_false_iff_eq.mpr c11
                clear c11
                (first | rw [c11b0] | (simp only [i64_w, i32_w]; rw [c11b0]) | skip)
                have H' := Aside0.mk H
                clear H
                go_wp2
                repeat (go_quiet (fail); try go_wp2)
                go_meet
                case rel => exact ⟨_, ((t102 == 1)), (by first | rfl | (simp; done) | (simp [*]; done) | (simp [bne_nil_bytes]; done)), H', ⟨by have := HK1.out; have := HJ2.out; first | omega | exact Nat.le_refl _⟩, ⟨by repeat (first | (with_reducible first | exact HB.out | apply below_alloc | apply pw_below_drewN | apply below_drew1) | exact HB.out)⟩⟩
              · rw [if_neg c11] at H
                have c11b0 : (t101 == 65533) = false := beq_eq_false_iff_ne.mpr c11
                have c11b1 : (t101 != 65533) = true := bne_iff_ne.mpr c11
                (first | rw [c11b0] | (simp only [i64_w, i32_w]; rw [c11b0]) | skip)
                have H' := Aside0.mk H
                clear H
                go_wp2
                repeat (go_quiet (fail); try go_wp2)
                go_meet
                case rel => exact ⟨_, (false), (by first | rfl | (simp; done) | (simp [*]; done) | (simp [bne_nil_bytes]; done)), H', ⟨by have := HK1.out; have := HJ2.out; first | omega | exact Nat.le_refl _⟩, ⟨by repeat (first | (with_reducible first | exact HB.out | apply below_alloc | apply pw_below_drewN | apply below_drew1) | exact HB.out)⟩⟩
            case rest =>
              clear HC8
              try clear c1
              try clear p2
              try clear c4
              try clear c4b0
              try clear c4b1
              try clear c5
              try clear p6
              try clear c10
              try clear c11
              try clear c11b0
              try clear c11b1
              try clear p2
              obtain ⟨kq, x36_7, rfl, HA, HJ7, HB⟩ := hcut
              cases kq with
              | zero => exact absurd HA.out (by simp [runes_Less.j2])
              | succ kj7 =>
                have H := HA.out
                clear HA
                simp only [runes_Less.j2] at H
                have HC12 := Aside0.mk H
                clear H
                go_upto_if 36 with (fail)
                repeat (go_quiet (fail); go_upto_if 36 with (fail))
                go_cut [9] (fun v9 wc => ∃ (kq : Nat) (x9_11 : Int), v9 = .int .i64 x9_11 ∧ Aside0 (runes_Less.j3 kq x0_1 x1_1 t102 t103 t104 x9_11 (wrap64 (t103)) = some r) ∧ Aside0 (kq ≤ kj7) ∧ Aside0 (Below w.heap.size w wc))
                case first =>
                  have H := HC12.out
                  clear HC12
                  by_cases c13 : x36_7 = true
                  · subst c13
                    have H1 : (if 0 < (x0_1.size : Int) then (runes_Less.j3 kj7 x0_1 x1_1 t102 t103 t104 (wrap64 (1114112 + (wrap64 (bt x0_1 0)))) (wrap64 (t103))) else (none)) = some r := by rw [if_pos rfl] at H; exact H
                    clear H
                    have H := H1
                    clear H1
                    by_cases c14 : 0 < (x0_1.size : Int)
                    · rw [if_pos c14] at H
                      have c14b0 : decide (0 < (x0_1.size : Int)) = true := decide_eq_true c14
                      have c14b1 : decide (0 < x0_1.size) = true := decide_eq_true (by omega)
                      clear c14
                      (first | rw [c14b0] | (simp only [i64_w, i32_w]; rw [c14b0]) | skip)
                      have H' := Aside0.mk H
                      clear H
                      have p15 : 0 ≤ (0 : Int) := (by omega)
                      have q15 : 0 < x0_1.size := (by have : (0 : Int) < (x0_1.size : Int) := of_decide_eq_true (by first | (with_reducible assumption) | assumption); omega)
                      have hx15 : ∀ h : 0 < x0_1.size, ((x0_1[0]'h).toNat : Int) = bt x0_1 0 := bt_at x0_1 0
                      clear p15
                      have qi15 : (0 < (x0_1.size : Int)) = True := eq_true (of_decide_eq_true (by first | (with_reducible assumption) | assumption))
                      replace q15 := eq_true q15
                      go_wp2
                      repeat (go_quiet (fail); try go_wp2)
                      go_meet
                      case rel => exact ⟨_, (wrap64 (1114112 + (wrap64 (bt x0_1 0)))), (by first | rfl | (simp; done) | (simp [*]; done) | (simp [bne_nil_bytes]; done)), H', ⟨by have := HK1.out; have := HJ2.out; have := HJ7.out; first | omega | exact Nat.le_refl _⟩, ⟨by repeat (first | (with_reducible first | exact HB.out | apply below_alloc | apply pw_below_drewN | apply below_drew1) | exact HB.out)⟩⟩
                    · rw [if_neg c14] at H
                      exact absurd H (by simp)
                  · replace c13 := Bool.eq_false_iff.mpr c13
                    subst c13
                    have H1 : (runes_Less.j3 kj7 x0_1 x1_1 t102 t103 t104 (wrap64 (t101)) (wrap64 (t103))) = some r := by rw [if_neg (show ¬ (false = true) by decide)] at H; exact H
                    clear H
                    have H := H1
                    clear H1
                    have H' := Aside0.mk H
                    clear H
                    go_wp2
                    repeat (go_quiet (fail); try go_wp2)
                    go_meet
                    case rel => exact ⟨_, ((wrap64 (t101))), (by first | rfl | (simp; done) | (simp [*]; done) | (simp [bne_nil_bytes]; done)), H', ⟨by have := HK1.out; have := HJ2.out; have := HJ7.out; first | omega | exact Nat.le_refl _⟩, ⟨by repeat (first | (with_reducible first | exact HB.out | apply below_alloc | apply pw_below_drewN | apply below_drew1) | exact HB.out)⟩⟩
                case rest =>
                  clear HC12
                  try clear c1
                  try clear p1
                  try clear q1
                  try clear hx1
                  try clear qi1
                  try clear p2
                  try clear c4
                  try clear c4b0
                  try clear c4b1
                  try clear c5
                  try clear p6
                  try clear c10
                  try clear c11
                  try clear c11b0
                  try clear c11b1
                  try clear c13
                  try clear c14
                  try clear c14b0
                  try clear c14b1
                  try clear p15
                  try clear q15
                  try clear hx15
                  try clear qi15
                  try clear p15
                  try clear p2
                  try clear p6
                  try clear q15
                  obtain ⟨kq, x9_11, rfl, HA, HJ11, HB⟩ := hcut
                  cases kq with
                  | zero => exact absurd HA.out (by simp [runes_Less.j3])
                  | succ kj11 =>
                    have H := HA.out
                    clear HA
                    simp only [runes_Less.j3] at H
                    have HC16 := Aside0.mk H
                    clear H
                    go_upto_region 7 with (fail)
                    repeat (go_quiet (fail); go_upto_region 7 with (fail))
                    go_cut [46] (fun v46 wc => ∃ (kq : Nat) (x46_15 : Bool), v46 = .bool x46_15 ∧ Aside0 (runes_Less.j4 kq x0_1 x1_1 t102 t104 x9_11 (wrap64 (t103)) x46_15 = some r) ∧ Aside0 (kq ≤ kj11) ∧ Aside0 (Below w.heap.size w wc))
                    case first =>
                      have H := HC16.out
                      clear HC16
                      by_cases c17 : t103 = 65533
                      · rw [if_pos c17] at H
                        have c17b0 : (t103 == 65533) = true := beq_iff_eq.mpr c17
                        have c17b1 : (t103 != 65533) = false := bne_eq_false_iff_eq.mpr c17
                        clear c17
                        (first | rw [c17b0] | (simp only [i64_w, i32_w]; rw [c17b0]) | skip)
                        have H' := Aside0.mk H
                        clear H
                        go_wp2
                        repeat (go_quiet (fail); try go_wp2)
                        go_meet
                        case rel => exact ⟨_, ((t104 == 1)), (by first | rfl | (simp; done) | (simp [*]; done) | (simp [bne_nil_bytes]; done)), H', ⟨by have := HK1.out; have := HJ2.out; have := HJ7.out; have := HJ11.out; first | omega | exact Nat.le_refl _⟩, ⟨by repeat (first | (with_reducible first | exact HB.out | apply below_alloc | apply pw_below_drewN | apply below_drew1) | exact HB.out)⟩⟩
                      · rw [if_neg c17] at H
                        have c17b0 : (t103 == 65533) = false := beq_eq_false_iff_ne.mpr c17
                        have c17b1 : (t103 != 65533) = true := bne_iff_ne.mpr c17
                        (first | rw [c17b0] | (simp only [i64_w, i32_w]; rw [c17b0]) | skip)
                        have H' := Aside0.mk H
                        clear H
                        go_wp2
                        repeat (go_quiet (fail); try go_wp2)
                        go_meet
                        case rel => exact ⟨_, (false), (by first | rfl | (simp; done) | (simp [*]; done) | (simp [bne_nil_bytes]; done)), H', ⟨by have := HK1.out; have := HJ2.out; have := HJ7.out; have := HJ11.out; first | omega | exact Nat.le_refl _⟩, ⟨by repeat (first | (with_reducible first | exact HB.out | apply below_alloc | apply pw_below_drewN | apply below_drew1) | exact HB.out)⟩⟩
                    case rest =>
                      clear HC16
                      try clear c1
                      try clear p1
                      try clear q1
                      try clear hx1
                      try clear qi1
                      try clear p2
                      try clear c4
                      try clear c4b0
                      try clear c4b1
                      try clear c5
                      try clear p6
                      try clear c10
                      try clear c11
                      try clear c11b0
                      try clear c11b1
                      try clear c13
                      try clear c14
                      try clear c14b0
                      try clear c14b1
                      try clear p15
                      try clear q15
                      try clear hx15
                      try clear qi15
                      try clear c17
                      try clear c17b0
                      try clear c17b1
                      try clear p1
                      try clear p15
                      try clear p2
                      try clear p6
                      try clear q1
                      try clear q15
                      obtain ⟨kq, x46_15, rfl, HA, HJ15, HB⟩ := hcut
                      cases kq with
                      | zero => exact absurd HA.out (by simp [runes_Less.j4])
                      | succ kj15 =>
                        have H := HA.out
                        clear HA
                        simp only [runes_Less.j4] at H
                        by_cases c18 : x46_15 = true
                        · subst c18
                          have H1 : (if 0 < (x1_1.size : Int) then (if x9_11 = (wrap64 (1114112 + (wrap64 (bt x1_1 0)))) then (if 0 ≤ t102 then (if t102 ≤ (x0_1.size : Int) then (if 0 ≤ t104 then (if t104 ≤ (x1_1.size : Int) then (runes_Less.l0 kj15 (x0_1.extract (t102 : Int).toNat x0_1.size) (x1_1.extract (t104 : Int).toNat x1_1.size)) else (none)) else (none)) else (none)) else (none)) else (some (decide (x9_11 < (wrap64 (1114112 + (wrap64 (bt x1_1 0)))))))) else (none)) = some r := by rw [if_pos rfl] at H; exact H
                          clear H
                          have H := H1
                          clear H1
                          by_cases c19 : 0 < (x1_1.size : Int)
                          · rw [if_pos c19] at H
                            have c19b0 : decide (0 < (x1_1.size : Int)) = true := decide_eq_true c19
                            have c19b1 : decide (0 < x1_1.size) = true := decide_eq_true (by omega)
                            clear c19
                            by_cases c21 : x9_11 = (wrap64 (1114112 + (wrap64 (bt x1_1 0))))
                            · rw [if_pos c21] at H
                              have c21b0 : (x9_11 == (wrap64 (1114112 + (wrap64 (bt x1_1 0))))) = true := beq_iff_eq.mpr c21
                              have c21b1 : (x9_11 != (wrap64 (1114112 + (wrap64 (bt x1_1 0))))) = false := bne_eq_false_iff_eq.mpr c21
                              clear c21
                              by_cases c22 : 0 ≤ t102
                              · rw [if_pos c22] at H
                                have c22b0 := eq_true c22
                                have c22b1 : decide (0 ≤ t102) = true := decide_eq_true c22
                                clear c22
                                by_cases c23 : t102 ≤ (x0_1.size : Int)
                                · rw [if_pos c23] at H
                                  have c23b0 := eq_true c23
                                  have c23b1 : decide (t102 ≤ (x0_1.size : Int)) = true := decide_eq_true c23
                                  clear c23
                                  by_cases c24 : 0 ≤ t104
                                  · rw [if_pos c24] at H
                                    have c24b0 := eq_true c24
                                    have c24b1 : decide (0 ≤ t104) = true := decide_eq_true c24
                                    clear c24
                                    by_cases c25 : t104 ≤ (x1_1.size : Int)
                                    · rw [if_pos c25] at H
                                      have c25b0 := eq_true c25
                                      have c25b1 : decide (t104 ≤ (x1_1.size : Int)) = true := decide_eq_true c25
                                      clear c25
                                      have H' := Aside0.mk H
                                      clear H
                                      have p20 : 0 ≤ (0 : Int) := (by omega)
                                      have q20 : 0 < x1_1.size := (by have : (0 : Int) < (x1_1.size : Int) := of_decide_eq_true (by first | (with_reducible assumption) | assumption); omega)
                                      have hx20 : ∀ h : 0 < x1_1.size, ((x1_1[0]'h).toNat : Int) = bt x1_1 0 := bt_at x1_1 0
                                      clear p20
                                      have qi20 : (0 < (x1_1.size : Int)) = True := eq_true (of_decide_eq_true (by first | (with_reducible assumption) | assumption))
                                      replace q20 := eq_true q20
                                      go_wp2
                                      repeat (go_quiet (fail); try go_wp2)
                                      go_roundg kj15
                                      case measure => have := HK1.out; have := HJ2.out; have := HJ7.out; have := HJ11.out; have := HJ15.out; omega
                                      case rel => exact ⟨(x0_1.extract (t102 : Int).toNat x0_1.size), (x1_1.extract (t104 : Int).toNat x1_1.size), (by first | rfl | (simp; done) | (simp [*]; done) | (simp [bne_nil_bytes]; done)), (by first | rfl | (simp; done) | (simp [*]; done) | (simp [bne_nil_bytes]; done)), H', ⟨by have := HK1.out; have := HJ2.out; have := HJ7.out; have := HJ11.out; have := HJ15.out; omega⟩, ⟨by repeat (first | (with_reducible first | exact HB.out | apply below_alloc | apply pw_below_drewN | apply below_drew1) | exact HB.out)⟩⟩
                                    · rw [if_neg c25] at H
                                      exact absurd H (by simp)
                                  · rw [if_neg c24] at H
                                    exact absurd H (by simp)
                                · rw [if_neg c23] at H
                                  exact absurd H (by simp)
                              · rw [if_neg c22] at H
                                exact absurd H (by simp)
                            · rw [if_neg c21] at H
                              have c21b0 : (x9_11 == (wrap64 (1114112 + (wrap64 (bt x1_1 0))))) = false := beq_eq_false_iff_ne.mpr c21
                              have c21b1 : (x9_11 != (wrap64 (1114112 + (wrap64 (bt x1_1 0))))) = true := bne_iff_ne.mpr c21
                              obtain rfl := Option.some.inj H
                              have p20 : 0 ≤ (0 : Int) := (by omega)
                              have q20 : 0 < x1_1.size := (by have : (0 : Int) < (x1_1.size : Int) := of_decide_eq_true (by first | (with_reducible assumption) | assumption); omega)
                              have hx20 : ∀ h : 0 < x1_1.size, ((x1_1[0]'h).toNat : Int) = bt x1_1 0 := bt_at x1_1 0
                              clear p20
                              have qi20 : (0 < (x1_1.size : Int)) = True := eq_true (of_decide_eq_true (by first | (with_reducible assumption) | assumption))
                              replace q20 := eq_true q20
                              go_wp2
                              repeat (go_quiet (fail); try go_wp2)
                              go_ret
                              exact ⟨by first | rfl | (simp [errW_none, errW_some] <;> rfl) | (simp [*, errW_none, errW_some] <;> rfl) | (simp [bne_nil_bytes]; done), by repeat (first | (with_reducible first | exact HB.out | apply below_alloc | apply pw_below_drewN | apply below_drew1) | exact HB.out)⟩
                          · rw [if_neg c19] at H
                            exact absurd H (by simp)
                        · replace c18 := Bool.eq_false_iff.mpr c18
                          subst c18
                          have H1 : (if x9_11 = (wrap64 (t103)) then (if 0 ≤ t102 then (if t102 ≤ (x0_1.size : Int) then (if 0 ≤ t104 then (if t104 ≤ (x1_1.size : Int) then (runes_Less.l0 kj15 (x0_1.extract (t102 : Int).toNat x0_1.size) (x1_1.extract (t104 : Int).toNat x1_1.size)) else (none)) else (none)) else (none)) else (none)) else (some (decide (x9_11 < (wrap64 (t103)))))) = some r := by rw [if_neg (show ¬ (false = true) by decide)] at H; exact H
                          clear H
                          have H := H1
                          clear H1
                          by_cases c26 : x9_11 = (wrap64 (t103))
                          · rw [if_pos c26] at H
                            have c26b0 : (x9_11 == (wrap64 (t103))) = true := beq_iff_eq.mpr c26
                            have c26b1 : (x9_11 != (wrap64 (t103))) = false := bne_eq_false_iff_eq.mpr c26
                            clear c26
                            by_cases c27 : 0 ≤ t102
                            · rw [if_pos c27] at H
                              have c27b0 := eq_true c27
                              have c27b1 : decide (0 ≤ t102) = true := decide_eq_true c27
                              clear c27
                              by_cases c28 : t102 ≤ (x0_1.size : Int)
                              · rw [if_pos c28] at H
                                have c28b0 := eq_true c28
                                have c28b1 : decide (t102 ≤ (x0_1.size : Int)) = true := decide_eq_true c28
                                clear c28
                                by_cases c29 : 0 ≤ t104
                                · rw [if_pos c29] at H
                                  have c29b0 := eq_true c29
                                  have c29b1 : decide (0 ≤ t104) = true := decide_eq_true c29
                                  clear c29
                                  by_cases c30 : t104 ≤ (x1_1.size : Int)
                                  · rw [if_pos c30] at H
                                    have c30b0 := eq_true c30
                                    have c30b1 : decide (t104 ≤ (x1_1.size : Int)) = true := decide_eq_true c30
                                    clear c30
                                    have H' := Aside0.mk H
                                    clear H
                                    go_wp2
                                    repeat (go_quiet (fail); try go_wp2)
                                    go_roundg kj15
                                    case measure => have := HK1.out; have := HJ2.out; have := HJ7.out; have := HJ11.out; have := HJ15.out; omega
                                    case rel => exact ⟨(x0_1.extract (t102 : Int).toNat x0_1.size), (x1_1.extract (t104 : Int).toNat x1_1.size), (by first | rfl | (simp; done) | (simp [*]; done) | (simp [bne_nil_bytes]; done)), (by first | rfl | (simp; done) | (simp [*]; done) | (simp [bne_nil_bytes]; done)), H', ⟨by have := HK1.out; have := HJ2.out; have := HJ7.out; have := HJ11.out; have := HJ15.out; omega⟩, ⟨by repeat (first | (with_reducible first | exact HB.out | apply below_alloc | apply pw_below_drewN | apply below_drew1) | exact HB.out)⟩⟩
                                  · rw [if_neg c30] at H
                                    exact absurd H (by simp)
                                · rw [if_neg c29] at H
                                  exact absurd H (by simp)
                              · rw [if_neg c28] at H
                                exact absurd H (by simp)
                            · rw [if_neg c27] at H
                              exact absurd H (by simp)
                          · rw [if_neg c26] at H
                            have c26b0 : (x9_11 == (wrap64 (t103))) = false := beq_eq_false_iff_ne.mpr c26
                            have c26b1 : (x9_11 != (wrap64 (t103))) = true := bne_iff_ne.mpr c26
                            obtain rfl := Option.some.inj H
                            go_wp2
                            repeat (go_quiet (fail); try go_wp2)
                            go_ret
                            exact ⟨by first | rfl | (simp [errW_none, errW_some] <;> rfl) | (simp [*, errW_none, errW_some] <;> rfl) | (simp [bne_nil_bytes]; done), by repeat (first | (with_reducible first | exact HB.out | apply below_alloc | apply pw_below_drewN | apply below_drew1) | exact HB.out)⟩
          · replace c5 := Bool.eq_false_iff.mpr c5
            subst c5
            have H1 : (if x0_1.toList = ([] : List UInt8) then (some (x1_1.toList != ([] : List UInt8))) else (some false)) = some r := by rw [if_neg (show ¬ (false = true) by decide)] at H; exact H
            clear H
            have H := H1
            clear H1
            by_cases c31 : x0_1.toList = ([] : List UInt8)
            · rw [if_pos c31] at H
              have c31b0 : (x0_1.toList == ([] : List UInt8)) = true := beq_iff_eq.mpr c31
              have c31b1 : (x0_1.toList != ([] : List UInt8)) = false := bne_eq_false_iff_eq.mpr c31
              clear c31
              obtain rfl := Option.some.inj H
              go_wp2
              repeat (go_quiet (fail); try go_wp2)
              go_ret
              exact ⟨by first | rfl | (simp [errW_none, errW_some] <;> rfl) | (simp [*, errW_none, errW_some] <;> rfl) | (simp [bne_nil_bytes]; done), by repeat (first | (with_reducible first | exact HB.out | apply below_alloc | apply pw_below_drewN | apply below_drew1) | exact HB.out)⟩
            · rw [if_neg c31] at H
              have c31b0 : (x0_1.toList == ([] : List UInt8)) = false := beq_eq_false_iff_ne.mpr c31
              have c31b1 : (x0_1.toList != ([] : List UInt8)) = true := bne_iff_ne.mpr c31
              obtain rfl := Option.some.inj H
              go_wp2
              repeat (go_quiet (fail); try go_wp2)
              go_ret
              exact ⟨by first | rfl | (simp [errW_none, errW_some] <;> rfl) | (simp [*, errW_none, errW_some] <;> rfl) | (simp [bne_nil_bytes]; done), by repeat (first | (with_reducible first | exact HB.out | apply below_alloc | apply pw_below_drewN | apply below_drew1) | exact HB.out)⟩

end Go.Proofs.YtglaagoblcpggaaDoor.R
