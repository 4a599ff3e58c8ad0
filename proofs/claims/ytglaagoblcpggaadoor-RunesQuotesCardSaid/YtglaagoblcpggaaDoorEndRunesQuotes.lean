/- Any text quoted and any text read are answered as the reference answers, and any runes are the reference's bytes and stay as they are: of texts of at most 3,000 bytes (or too long ones), quoted texts of at most 5,000 bytes (or too long ones), lists of at most 3,000 runes. -/
import Derived.Test.YtglaagoblcpggaaDoorRows
import Derived.Test.YtglaagoblcpggaaDoorTabs
import Derived.Lib.LaidU8
import Derived.LaidMore
import Derived.MakeChecks
import Derived.Test.YtglaagoblcpggaaDoorHF
import Derived.Test.YtglaagoblcpggaaDoorHY
import Derived.Test.YtglaagoblcpggaaDoorK
import Derived.Test.YtglaagoblcpggaaDoorF35
import Derived.Test.YtglaagoblcpggaaDoorHV
import Derived.Test.YtglaagoblcpggaaDoorF33
import Derived.Test.YtglaagoblcpggaaDoorF57
import Derived.Test.YtglaagoblcpggaaDoorF50
import Derived.Test.YtglaagoblcpggaaDoorF41
import Derived.Test.YtglaagoblcpggaaDoorHZ
import Derived.Laws.Cover4
import Derived.Test.YtglaagoblcpggaaDoorHT
import Derived.Test.YtglaagoblcpggaaDoorPa
import Derived.Test.YtglaagoblcpggaaDoorF51
import Derived.Test.YtglaagoblcpggaaDoorF64
import Derived.Test.YtglaagoblcpggaaDoorF68
import Derived.Test.YtglaagoblcpggaaDoorCards
import Derived.Test.YtglaagoblcpggaaDoorTie
import Derived.WalkKit
import Derived.ProofKit
import Derived.OpenShut
import Derived.ShutString
import Derived.ChangeOld
import Derived.Below
import Derived.SizedLaws
import Derived.SevenTiedAt
import Derived.Test.YtglaagoblcpggaaDoorWSized
section
namespace Go.Proofs.YtglaagoblcpggaaDoor.R
open Go.RowKit

theorem own : ownKnob Tryd.prog.godebug = none := by kernel_rfl
theorem first_eq : (Go.Pinned.utf8First : DataW Unit) = Lib.firstData := by kernel_rfl
theorem accept_eq : (Rows.laid_unicode_utf8_acceptRanges : DataW Unit) = Lib.acceptData := by kernel_rfl

/-- The settled world, the two tables holding what the library's text lays. -/
noncomputable def laidW (os : Os) : World :=
  let w0 := World.holding Tryd.prog os ⟨#[], #[], []⟩
  let put (h : Array Obj) (g : Nat) (cs : Array Value) : Array Obj := h.modify g fun
    | .cells _ t frozen => .cells cs t frozen
    | o => o
  let h1 := put w0.heap 0 (Lib.firstTab.map fun z => Value.int .u8 z).toArray
  let h2 := put h1 1 ((List.range 16).flatMap fun i => [Value.int .u8 (Lib.accLo i), Value.int .u8 (Lib.accHi i)]).toArray
  { w0 with heap := h2 }

abbrev laidU : List (String × DataW Unit) := [("unicode/utf8.acceptRanges", Rows.laid_unicode_utf8_acceptRanges), ("unicode/utf8.first", Rows.laid_unicode_utf8_first)]
theorem metU (os : Os) (args : Array Value) : laidMetH Tryd.prog laidU ((laidW os).forCall (fun _ _ => 0) ⟨#[], args, []⟩).memory := by
  rw [MakeChecks.laidMetH_plain _ _ _ (by kernel_rfl)]
  exact laidMet_of_run' 8 (by kernel_rfl) (by kernel_rfl)

theorem tabU_of_reads {W : World} (h3 : Lib.VarReads Tryd.prog W "unicode/utf8.first" Rows.laid_unicode_utf8_first) (h4 : Lib.VarReads Tryd.prog W "unicode/utf8.acceptRanges" Rows.laid_unicode_utf8_acceptRanges) : TabU W := by
  have e3 : (Rows.laid_unicode_utf8_first : DataW Unit) = Lib.firstData := first_eq
  rw [e3] at h3
  rw [accept_eq] at h4
  exact utf8Tabs_of_reads (ρ := Tryd.lays197_ren) { Tryd.lays197 with } ⟨by kernel_rfl, by kernel_rfl, by kernel_rfl, by kernel_rfl, by kernel_rfl, by kernel_rfl, by kernel_rfl⟩ h3 h4
theorem tabU_of {W : World} (h : laidMetH Tryd.prog laidU W) : TabU W := by
  rw [MakeChecks.laidMetH_plain _ _ _ (by kernel_rfl)] at h
  exact tabU_of_reads (Lib.laidMet.reads h (.tail _ (.head _))) (Lib.laidMet.reads h (.head _))

end Go.Proofs.YtglaagoblcpggaaDoor.R
end

section
set_option linter.unusedVariables false
namespace Go.Proofs.YtglaagoblcpggaaDoor.R
open Go.RowKit

/-- The world as the program's own initialisers lay it; 'first', which none lays, as the library's text has it. -/
noncomputable def laidWE (os : Os) : World :=
  let w0 := World.doorLaid Tryd.prog 4000 os
  { w0 with heap := w0.heap.modify 0 fun
    | .cells _ t frozen => .cells (Lib.firstTab.map fun z => Value.int .u8 z).toArray t frozen
    | o => o }

abbrev laidN : List (String × DataW Unit) := [("math/bits.deBruijn32tab", Rows.laid_math_bits_deBruijn32tab), ("math/bits.deBruijn64tab", Rows.laid_math_bits_deBruijn64tab), ("internal/strconv.uint64pow10", Rows.laid_internal_strconv_uint64pow10), ("unicode/utf8.acceptRanges", Rows.laid_unicode_utf8_acceptRanges), ("unicode/utf8.first", Rows.laid_unicode_utf8_first)]
abbrev laidE : List (String × DataW Unit) := [("math/bits.deBruijn32tab", Rows.laid_math_bits_deBruijn32tab), ("math/bits.deBruijn64tab", Rows.laid_math_bits_deBruijn64tab), ("internal/strconv.uint64pow10", Rows.laid_internal_strconv_uint64pow10), ("unicode/utf8.acceptRanges", Rows.laid_unicode_utf8_acceptRanges), ("strconv.ErrRange", Rows.laid_strconv_ErrRange), ("strconv.ErrSyntax", Rows.laid_strconv_ErrSyntax), ("unicode/utf8.first", Rows.laid_unicode_utf8_first)]
noncomputable abbrev laidWN := laidWE
theorem shapedE (os : Os) (args : Array Value) : ((laidWE os).forCall (fun _ _ => 0) ⟨#[], args, []⟩).Shaped Tryd.prog := World.shaped_of_RefB (by kernel_rfl) (by kernel_rfl)
theorem shapedN (os : Os) (args : Array Value) : ((laidWN os).forCall (fun _ _ => 0) ⟨#[], args, []⟩).Shaped Tryd.prog := shapedE os args
theorem metN (os : Os) (args : Array Value) : laidMetH Tryd.prog laidN ((laidWE os).forCall (fun _ _ => 0) ⟨#[], args, []⟩).memory := by
  rw [MakeChecks.laidMetH_plain _ _ _ (by kernel_rfl)]
  exact laidMet_of_run' 8 (by kernel_rfl) (by kernel_rfl)
theorem metE (os : Os) (args : Array Value) : laidMetH Tryd.prog laidE ((laidWE os).forCall (fun _ _ => 0) ⟨#[], args, []⟩).memory := by
  rw [MakeChecks.laidMetH_plain _ _ _ (by kernel_rfl)]
  exact laidMet_of_run' 8 (by kernel_rfl) (by kernel_rfl)

def bruijn64 : List Int := [0, 1, 56, 2, 57, 49, 28, 3, 61, 58, 42, 50, 38, 29, 17, 4, 62, 47, 59, 36, 45, 43, 51, 22, 53, 39, 33, 30, 24, 18, 12, 5, 63, 55, 48, 27, 60, 41, 37, 16, 46, 35, 44, 21, 52, 32, 23, 11, 54, 26, 40, 15, 34, 20, 31, 10, 25, 14, 19, 9, 13, 8, 7, 6]
theorem bruijn_eq : (Rows.laid_math_bits_deBruijn64tab : DataW Unit) = Lib.tabData .u8 bruijn64 := by kernel_rfl
theorem tabN_of_reads {W : World} (h : Lib.VarReads Tryd.prog W "math/bits.deBruijn64tab" Rows.laid_math_bits_deBruijn64tab) : TabN W := by
  rw [bruijn_eq] at h
  obtain ⟨g, t, cs, fuel, p, hg, hty, hvar, hd⟩ := h
  obtain rfl := Option.some.inj ((show Tryd.prog.globalNamed "math/bits.deBruijn64tab" = some 7 by kernel_rfl).symm.trans hg)
  obtain rfl := Option.some.inj ((show (Tryd.prog.globals[7]?).map (·.type) = some 128 by kernel_rfl).symm.trans hty)
  have hcs := Lib.cells_of_tab Tryd.underlying128 Tryd.underlying5 (by kernel_rfl) (by kernel_rfl) hd
  have := World.var?_cell hg hvar 15
  unfold TabN
  rw [this, ← Array.getElem?_toList, hcs]
  rfl
theorem tabU_ofN {W : World} (h : laidMetH Tryd.prog laidN W) : TabU W := by
  rw [MakeChecks.laidMetH_plain _ _ _ (by kernel_rfl)] at h
  exact tabU_of_reads (Lib.laidMet.reads h (by simp)) (Lib.laidMet.reads h (by simp))
theorem tabN_ofN {W : World} (h : laidMetH Tryd.prog laidN W) : TabN W := by
  rw [MakeChecks.laidMetH_plain _ _ _ (by kernel_rfl)] at h
  exact tabN_of_reads (Lib.laidMet.reads h (by simp))
theorem tabU_ofE {W : World} (h : laidMetH Tryd.prog laidE W) : TabU W := by
  rw [MakeChecks.laidMetH_plain _ _ _ (by kernel_rfl)] at h
  exact tabU_of_reads (Lib.laidMet.reads h (by simp)) (Lib.laidMet.reads h (by simp))
theorem tabN_ofE {W : World} (h : laidMetH Tryd.prog laidE W) : TabN W := by
  rw [MakeChecks.laidMetH_plain _ _ _ (by kernel_rfl)] at h
  exact tabN_of_reads (Lib.laidMet.reads h (by simp))
end Go.Proofs.YtglaagoblcpggaaDoor.R
end

section
set_option linter.unusedVariables false
namespace Go.Proofs.YtglaagoblcpggaaDoor.R
open Go.RowKit
theorem iface_of_reads {W : World} {n : String} {g : Nat} {name : String} {d : DataW Unit} (hg : Tryd.prog.globalNamed n = some g) (ht : (Tryd.prog.globals[g]?).map (·.type) = some 63) (h : Lib.VarReads Tryd.prog W n (.iface name d)) : ∃ te pe, W.cell? ⟨g, 0, none⟩ = some (.iface te pe) := by
  obtain ⟨g', t, cs, fuel, p, hg', hty, hvar, hd⟩ := h
  obtain rfl := Option.some.inj (hg.symm.trans hg')
  obtain rfl := Option.some.inj (ht.symm.trans hty)
  obtain ⟨_, u, v, hcs, _⟩ := iface_of_trod Tryd.underlying63 hd
  have := World.var?_cell hg hvar 0
  rw [← Array.getElem?_toList, hcs] at this
  exact ⟨u, v, this⟩
theorem tabE_ofE {W : World} (h : laidMetH Tryd.prog laidE W) : TabE W := by
  rw [MakeChecks.laidMetH_plain _ _ _ (by kernel_rfl)] at h
  exact ⟨iface_of_reads (by kernel_rfl) (by kernel_rfl) (Lib.laidMet.reads h (n := "strconv.ErrSyntax") (d := Rows.laid_strconv_ErrSyntax) (by simp)), iface_of_reads (by kernel_rfl) (by kernel_rfl) (Lib.laidMet.reads h (n := "strconv.ErrRange") (d := Rows.laid_strconv_ErrRange) (by simp))⟩
end Go.Proofs.YtglaagoblcpggaaDoor.R
end

section
namespace Go.Proofs.YtglaagoblcpggaaDoor.R
open Go.RowKit Go.Proofs.YtglaagoblcpggaaDoorW.PrintWords Go.Proofs.YtglaagoblcpggaaDoorW.PrintLast Go.Proofs.YtglaagoblcpggaaDoorW.PrintMore
attribute [local go_sem] max2_int min2_int max_two min_two max_three min_three max_four min_four   -- for this text's walks alone
set_option linter.unusedVariables false
set_option linter.unusedSimpArgs false

/-! ### cognatelaw01_long: function 12 -/
def cognatelaw01_long.f (a0 : ByteArray) : Option (Bool) := if (a0.size : Int) > 3000 then (if (a0.size : Int) ≤ 65536 then (some true) else (some (decide ((a0.size : Int) > 66000)))) else (some (decide ((a0.size : Int) > 66000)))
set_option maxHeartbeats 8000000 in
set_option maxRecDepth 100000 in
theorem cognatelaw01_long.calls (a0 : ByteArray) (r : Bool) (w : World) (h : cognatelaw01_long.f a0 = some r) :
    Calls Tryd.prog 12 #[.string a0] w fun e w' => e = .returned (.bool r) ∧ Drawn0 w w' := by
  have H : (if (a0.size : Int) > 3000 then (if (a0.size : Int) ≤ 65536 then (some true) else (some (decide ((a0.size : Int) > 66000)))) else (some (decide ((a0.size : Int) > 66000)))) = some r := h
  clear h
  by_cases c2 : (a0.size : Int) > 3000
  · rw [if_pos c2] at H
    have c2b0 : decide (3000 < (a0.size : Int)) = true := decide_eq_true c2
    have c2b1 : decide (3000 < a0.size) = true := decide_eq_true (by omega)
    clear c2
    by_cases c3 : (a0.size : Int) ≤ 65536
    · rw [if_pos c3] at H
      have c3b0 : decide ((a0.size : Int) ≤ 65536) = true := decide_eq_true c3
      have c3b1 : decide (a0.size ≤ 65536) = true := decide_eq_true (by omega)
      clear c3
      obtain rfl := Option.some.inj H
      go_enter Tryd.func12, Tryd.ntmps12
      go_wp2
      go_ret
      exact ⟨by first | rfl | (simp; done) | (simp [*]; done), by repeat (first | exact Drawn0.refl _ | apply Drawn0.step)⟩
    · rw [if_neg c3] at H
      have c3b0 : decide ((a0.size : Int) ≤ 65536) = false := decide_eq_false c3
      have c3b1 : decide (a0.size ≤ 65536) = false := decide_eq_false (by omega)
      clear c3
      obtain rfl := Option.some.inj H
      go_enter Tryd.func12, Tryd.ntmps12
      go_wp2
      go_ret
      exact ⟨by first | rfl | (simp; done) | (simp [*]; done), by repeat (first | exact Drawn0.refl _ | apply Drawn0.step)⟩
  · rw [if_neg c2] at H
    have c2b0 : decide (3000 < (a0.size : Int)) = false := decide_eq_false c2
    have c2b1 : decide (3000 < a0.size) = false := decide_eq_false (by omega)
    clear c2
    obtain rfl := Option.some.inj H
    go_enter Tryd.func12, Tryd.ntmps12
    go_wp2
    go_ret
    exact ⟨by first | rfl | (simp; done) | (simp [*]; done), by repeat (first | exact Drawn0.refl _ | apply Drawn0.step)⟩

end Go.Proofs.YtglaagoblcpggaaDoor.R
end

section
namespace Go.Proofs.YtglaagoblcpggaaDoor.R
open Go.RowKit Go.Proofs.YtglaagoblcpggaaDoorW.PrintWords Go.Proofs.YtglaagoblcpggaaDoorW.PrintLast Go.Proofs.YtglaagoblcpggaaDoorW.PrintMore
attribute [local go_sem] max2_int min2_int max_two min_two max_three min_three max_four min_four   -- for this text's walks alone
set_option linter.unusedVariables false
set_option linter.unusedSimpArgs false

/-! ### runes_Quote: function 27 -/
def runes_Quote.f (a0 : ByteArray) : Option (ByteArray × Int) := (runes_long.f a0).bind fun t101 => (if t101 = 0 then ((runes_quote.f a0).bind fun t102 => (some (t102, 0))) else (some ((⟨#[]⟩ : ByteArray), t101)))
set_option maxHeartbeats 8000000 in
set_option maxRecDepth 100000 in
theorem runes_Quote.calls (a0 : ByteArray) (r1 : ByteArray) (r2 : Int) (w : World) (hTU : TabU w) (hTN : TabN w) (h : runes_Quote.f a0 = some (r1, r2)) :
    Calls Tryd.prog 27 #[.string a0] w fun e w' => e = .returned (.tuple #[.string r1, .int .i64 r2]) ∧ Below w.heap.size w w' := by
  have HB := Aside0.mk (Below.refl w.heap.size w)
  have H : ((runes_long.f a0).bind fun t101 => (if t101 = 0 then ((runes_quote.f a0).bind fun t102 => (some (t102, 0))) else (some ((⟨#[]⟩ : ByteArray), t101)))) = some (r1, r2) := h
  clear h
  have HTU := Aside0.mk hTU
  clear hTU
  have HTN := Aside0.mk hTN
  clear hTN
  replace H := Option.bind_eq_some_iff.mp H
  obtain ⟨t101, A20, H⟩ := H
  replace H : (if t101 = 0 then ((runes_quote.f a0).bind fun t102 => (some (t102, 0))) else (some ((⟨#[]⟩ : ByteArray), t101))) = some (r1, r2) := H
  have A2 := Aside0.mk A20
  clear A20
  by_cases c3 : t101 = 0
  · rw [if_pos c3] at H
    have c3b0 : (t101 == 0) = true := beq_iff_eq.mpr c3
    have c3b1 : (t101 != 0) = false := bne_eq_false_iff_eq.mpr c3
    clear c3
    replace H := Option.bind_eq_some_iff.mp H
    obtain ⟨t102, A40, H⟩ := H
    replace H : (some (t102, 0)) = some (r1, r2) := H
    have A4 := Aside0.mk A40
    clear A40
    simp only [Option.some.injEq, Prod.mk.injEq] at H
    obtain ⟨rfl, rfl⟩ := H
    go_enter Tryd.func27, Tryd.ntmps27
    go_wp2_with (first | ((with_reducible refine gate_callee (f := 35) rfl ?_); refine goesL_ (some 6) rfl rfl Tryd.func35 (by kernel_rfl) rfl #[.string a0] rfl (by (try simp only [List.map_toArray, List.map_cons, List.map_nil]); first | done | rfl | (simp only [List.length_drop, List.length_take]; rfl)) ?_; (with_reducible refine (runes_long.calls a0 t101 _ A2.out).mono ?_); rintro e w' ⟨rfl, ⟨nd, rfl⟩⟩; refine ⟨_, rfl, ?_⟩) | ((with_reducible refine gate_callee (f := 43) rfl ?_); refine goesL_ (some 11) rfl rfl Tryd.func43 (by kernel_rfl) rfl #[.string a0] rfl (by (try simp only [List.map_toArray, List.map_cons, List.map_nil]); first | done | rfl | (simp only [List.length_drop, List.length_take]; rfl)) ?_; (with_reducible refine (runes_quote.calls a0 t102 _ ?side1 ?side2 A4.out).mono ?_); (case side1 => exact TabU.below HTU.out (by repeat (first | (with_reducible first | exact HB.out | apply below_alloc | apply pw_below_drewN | apply below_drew1) | exact HB.out))); (case side2 => exact TabN.below HTN.out (by repeat (first | (with_reducible first | exact HB.out | apply below_alloc | apply pw_below_drewN | apply below_drew1) | exact HB.out))); rintro e w5 ⟨rfl, hb⟩; refine ⟨_, rfl, ?_⟩; have n0_ := Aside0.mk (below_step (by repeat (first | (with_reducible first | exact HB.out | apply below_alloc | apply pw_below_drewN | apply below_drew1) | exact HB.out)) hb); clear HB; have HB := n0_; clear n0_; (try clear hb); (try clear hb2); (try clear hk); (try clear hi)))
    go_ret2
    exact ⟨by first | rfl | (simp [errW_none, errW_some] <;> rfl) | (simp [*, errW_none, errW_some] <;> rfl), by repeat (first | (with_reducible first | exact HB.out | apply below_alloc | apply pw_below_drewN | apply below_drew1) | exact HB.out)⟩
  · rw [if_neg c3] at H
    have c3b0 : (t101 == 0) = false := beq_eq_false_iff_ne.mpr c3
    have c3b1 : (t101 != 0) = true := bne_iff_ne.mpr c3
    simp only [Option.some.injEq, Prod.mk.injEq] at H
    obtain ⟨rfl, rfl⟩ := H
    go_enter Tryd.func27, Tryd.ntmps27
    go_wp2_with (first | ((with_reducible refine gate_callee (f := 35) rfl ?_); refine goesL_ (some 6) rfl rfl Tryd.func35 (by kernel_rfl) rfl #[.string a0] rfl (by (try simp only [List.map_toArray, List.map_cons, List.map_nil]); first | done | rfl | (simp only [List.length_drop, List.length_take]; rfl)) ?_; (with_reducible refine (runes_long.calls a0 t101 _ A2.out).mono ?_); rintro e w' ⟨rfl, ⟨nd, rfl⟩⟩; refine ⟨_, rfl, ?_⟩))
    go_ret2
    exact ⟨by first | rfl | (simp [errW_none, errW_some] <;> rfl) | (simp [*, errW_none, errW_some] <;> rfl), by repeat (first | (with_reducible first | exact HB.out | apply below_alloc | apply pw_below_drewN | apply below_drew1) | exact HB.out)⟩

end Go.Proofs.YtglaagoblcpggaaDoor.R
end

section
namespace Go.Proofs.YtglaagoblcpggaaDoor.R
open Go.RowKit Go.Proofs.YtglaagoblcpggaaDoorW.PrintWords Go.Proofs.YtglaagoblcpggaaDoorW.PrintLast Go.Proofs.YtglaagoblcpggaaDoorW.PrintMore
attribute [local go_sem] max2_int min2_int max_two min_two max_three min_three max_four min_four   -- for this text's walks alone
set_option linter.unusedVariables false
set_option linter.unusedSimpArgs false

/-! ### cognateref01_quote: function 44 -/
def cognateref01_quote.l0 : Nat → ByteArray → List Int → List (S35) → Int → Option (ByteArray)
  | 0, _, _, _, _ => none
  | k + 1, x0, x3, x4, x5 => if x5 < (x4.length : Int) then (if 0 ≤ x5 then ((cognateref01_shown.f k x0 ((rd_T35 x4 x5).f0) ((rd_T35 x4 x5).f1) ((rd_T35 x4 x5).f2) ((rd_T35 x4 x5).f3)).bind fun t108 => (if x3.length + t108.size < 140737488355328 then (cognateref01_quote.l0 k x0 (x3 ++ bytesOf t108) x4 (wrap64 (x5 + 1))) else (none))) else (none)) else (if x3.length < 140737488355328 then (some (strOfNums (x3 ++ [34]))) else (none))
def cognateref01_quote.f (k : Nat) (a0 : ByteArray) : Option (ByteArray) := (cognateref01_All.f k a0).bind fun t104 => (cognateref01_quote.l0 k a0 (([34] : List Int)) t104 0)
theorem cognateref01_quote.mono_l : ∀ k, (∀ y0 y1 y2 y3, LeO (cognateref01_quote.l0 k y0 y1 y2 y3) (cognateref01_quote.l0 (k + 1) y0 y1 y2 y3))
  | 0 => fun _ _ _ _ r h => by simp [cognateref01_quote.l0] at h
  | k + 1 => by
    have ih0 := cognateref01_quote.mono_l k
    · intro y0 y1 y2 y3
      unfold cognateref01_quote.l0
      repeat' first
      | (with_reducible exact ih0 _ _ _ _)
      | (with_reducible exact cognateref01_All.mono _ _)
      | (with_reducible exact cognateref01_shown.mono _ _ _ _ _ _)
      | (with_reducible exact LeO.refl _)
      | (with_reducible exact LeO.none _)
      | (with_reducible refine LeO.ite ?_ ?_)
      | (with_reducible refine LeO.bind ?_ (fun _ => ?_))
      | exact ih0 _ _ _ _
      | exact cognateref01_All.mono _ _
      | exact cognateref01_shown.mono _ _ _ _ _ _
      | exact LeO.none _
      | refine LeO.ite ?_ ?_
      | refine LeO.bind ?_ (fun _ => ?_)
theorem cognateref01_quote.mono : ∀ a0 k, LeO (cognateref01_quote.f k a0) (cognateref01_quote.f (k + 1) a0) := by
  intro a0 k
  have ih0 := cognateref01_quote.mono_l k
  unfold cognateref01_quote.f
  repeat' first
      | (with_reducible exact ih0 _ _ _ _)
      | (with_reducible exact cognateref01_All.mono _ _)
      | (with_reducible exact cognateref01_shown.mono _ _ _ _ _ _)
      | (with_reducible exact LeO.refl _)
      | (with_reducible exact LeO.none _)
      | (with_reducible refine LeO.ite ?_ ?_)
      | (with_reducible refine LeO.bind ?_ (fun _ => ?_))
      | exact ih0 _ _ _ _
      | exact cognateref01_All.mono _ _
      | exact cognateref01_shown.mono _ _ _ _ _ _
      | exact LeO.none _
      | refine LeO.ite ?_ ?_
      | refine LeO.bind ?_ (fun _ => ?_)
set_option maxHeartbeats 8000000 in
set_option maxRecDepth 100000 in
theorem cognateref01_quote.calls (k : Nat) (a0 : ByteArray) (r : ByteArray) (w : World) (h : cognateref01_quote.f k a0 = some r) :
    Calls Tryd.prog 44 #[.string a0] w fun e w' => e = .returned (.string r) ∧ Below w.heap.size w w' := by
  have hu35 := Tryd.underlying35
  have HB := Aside0.mk (Below.refl w.heap.size w)
  have H : ((cognateref01_All.f k a0).bind fun t104 => (cognateref01_quote.l0 k a0 (([34] : List Int)) t104 0)) = some r := h
  clear h
  obtain ⟨y101, hy101⟩ : ∃ y_ : List Int, y_ = (([34] : List Int)) := ⟨_, rfl⟩
  replace H : ((cognateref01_All.f k a0).bind fun t104 => (cognateref01_quote.l0 k a0 y101 t104 0)) = some r := by first | (rw [hy101]; with_reducible exact H) | (have H2_ := (Option.bind_some _ _).symm.trans H; rw [hy101]; with_reducible exact H2_) | (have H2_ := (Option.bind_some _ _).symm.trans H; with_reducible exact H2_) | with_reducible exact H | (rw [hy101]; exact H) | exact H
  have Ny101 := Aside0.mk hy101
  clear hy101
  replace H := Option.bind_eq_some_iff.mp H
  obtain ⟨t104, A20, H⟩ := H
  replace H : (cognateref01_quote.l0 k a0 y101 t104 0) = some r := H
  have A2 := Aside0.mk A20
  clear A20
  have H' := Aside0.mk H
  clear H
  go_enter Tryd.func44, Tryd.ntmps44
  go_wp2_with (first | ((with_reducible refine gate_dst (N := 6) rfl ?_); refine Kd.R_lit (Kd.int .u8) _ 5 ?hg (N := 6) ?hd (xs := ([34] : List Int)) (inner := [.int .u8 34]) (ok := fun _ => True) (okp := fun _ => True) ?hr ?hp (fun _ hk => hk) trivial (Below.refl _ _) (Nat.le_refl _) (by simp) ?_; (case hd => rfl); (case hg => rfl); (case hr => first | (go_simp; done) | (go_simp; rfl)); (case hp => exact (Reps.one (show Kd.M (Kd.int .u8) _ _ _ 34 [.int .u8 34] from rfl) (Reps.none _ _))); intro v102 w3 ho4 hb hg_ hnew_; clear hg_ hnew_; (first | rw [← Ny101.out] at ho4 | (simp only [Int.reduceToNat] at ho4; rw [← Ny101.out] at ho4)); have n0_ := Aside0.mk (Kd.R_lower ho4 (below_size (by repeat (first | (with_reducible first | exact HB.out | apply below_alloc | apply pw_below_drewN | apply below_drew1) | exact HB.out)))); have n1_ := Aside0.mk (below_step (by repeat (first | (with_reducible first | exact HB.out | apply below_alloc | apply pw_below_drewN | apply below_drew1) | exact HB.out)) hb); clear HB; have HO103 := n0_; have HB := n1_; clear n0_ n1_; clear hb ho4) | ((with_reducible refine gate_callee (f := 33) rfl ?_); refine goesL_ (some 8) rfl rfl Tryd.func33 (by kernel_rfl) rfl #[.string a0] rfl (by (try simp only [List.map_toArray, List.map_cons, List.map_nil]); first | done | rfl | (simp only [List.length_drop, List.length_take]; rfl)) ?_; (with_reducible refine (cognateref01_All.calls k a0 t104 _ A2.out).mono ?_); rintro e w5 ⟨v105, rfl, ho0, hb⟩; refine ⟨_, rfl, ?_⟩; have n0_ := Aside0.mk (Kd.R_below (by (with_reducible repeat (first | apply Kd.R_alloc | apply Kd.R_drewN | apply Kd.R_drew)); exact HO103.out) hb); have n1_ := Aside0.mk (Kd.R_lower ho0 (below_size (by repeat (first | (with_reducible first | exact HB.out | apply below_alloc | apply pw_below_drewN | apply below_drew1) | exact HB.out)))); have n2_ := Aside0.mk (below_step (by repeat (first | (with_reducible first | exact HB.out | apply below_alloc | apply pw_below_drewN | apply below_drew1) | exact HB.out)) hb); clear HO103; clear HB; have HO103 := n0_; have HO106 := n1_; have HB := n2_; clear n0_ n1_ n2_; (try clear hb); (try clear hb2); (try clear hk); (try clear hi); (try clear ho0)))
  go_loopg [3, 5] k (fun kq v3 v5 w' => ∃ (x3_1 : List Int) (x5_1 : Int), v5 = .int .i64 x5_1 ∧ Aside0 (cognateref01_quote.l0 kq a0 x3_1 t104 x5_1 = some r) ∧ Aside0 (kq ≤ k) ∧ Aside0 (Kd.R (Kd.int .u8) 5 w' w.heap.size (fun _ => True) v3 x3_1) ∧ Aside0 (Kd.R k35 35 w' w.heap.size (fun _ => True) v105 t104) ∧ Aside0 (Below w.heap.size w w'))
  case atStart => exact ⟨(y101), (0), (by first | rfl | (simp; done) | (simp [*]; done)), H', ⟨Nat.le_refl _⟩, ⟨by (with_reducible repeat (first | apply Kd.R_alloc | apply Kd.R_drewN | apply Kd.R_drew)); exact HO103.out⟩, ⟨by (with_reducible repeat (first | apply Kd.R_alloc | apply Kd.R_drewN | apply Kd.R_drew)); exact HO106.out⟩, ⟨by repeat (first | (with_reducible first | exact HB.out | apply below_alloc | apply pw_below_drewN | apply below_drew1) | exact HB.out)⟩⟩
  case round =>
    clear H'
    try clear p2
    try clear c3
    try clear c4
    obtain ⟨x3_1, x5_1, rfl, HA, HK1, HO_3, HO_4, HB⟩ := hrel
    cases gk with
    | zero => exact absurd HA.out (by simp [cognateref01_quote.l0])
    | succ k1 =>
      have H := HA.out
      clear HA
      simp only [cognateref01_quote.l0] at H
      by_cases c6 : x5_1 < (t104.length : Int)
      · rw [if_pos c6] at H
        have c6b0 : decide (x5_1 < (t104.length : Int)) = true := decide_eq_true c6
        clear c6
        by_cases c7 : 0 ≤ x5_1
        · rw [if_pos c7] at H
          have c7b0 : decide (0 ≤ x5_1) = true := decide_eq_true c7
          clear c7
          replace H := Option.bind_eq_some_iff.mp H
          obtain ⟨t108, A80, H⟩ := H
          replace H : (if x3_1.length + t108.size < 140737488355328 then (cognateref01_quote.l0 k1 a0 (x3_1 ++ bytesOf t108) t104 (wrap64 (x5_1 + 1))) else (none)) = some r := H
          have A8 := Aside0.mk A80
          clear A80
          by_cases c9 : x3_1.length + t108.size < 140737488355328
          · rw [if_pos c9] at H
            have LMc9 := Aside0.mk c9
            clear c9
            obtain ⟨y109, hy109⟩ : ∃ y_ : List Int, y_ = (x3_1 ++ bytesOf t108) := ⟨_, rfl⟩
            replace H : (cognateref01_quote.l0 k1 a0 y109 t104 (wrap64 (x5_1 + 1))) = some r := by first | (rw [hy109]; with_reducible exact H) | (have H2_ := (Option.bind_some _ _).symm.trans H; rw [hy109]; with_reducible exact H2_) | (have H2_ := (Option.bind_some _ _).symm.trans H; with_reducible exact H2_) | with_reducible exact H | (rw [hy109]; exact H) | exact H
            have Ny109 := Aside0.mk hy109
            clear hy109
            have H' := Aside0.mk H
            clear H
            obtain ⟨Ao10, co10, eo10⟩ := Kd.R_slice HO_4.out
            subst eo10
            have p107 : 0 ≤ (x5_1 : Int) := of_decide_eq_true (by first | (with_reducible assumption) | assumption)
            have q107 : x5_1 < (t104.length : Int) := of_decide_eq_true (by first | (with_reducible assumption) | assumption)
            obtain ⟨ad107, e107, hx107_0, hx107_1, hx107_2, hx107_3⟩ := at_T35 (Kd.R_reads' HO_4.out).2.2 x5_1 p107 q107
            cases e107
            replace p107 := eq_true p107
            replace q107 := eq_true q107
            go_wp2_with (first | ((with_reducible refine gate_callee (f := 57) rfl ?_); refine goesL_ (some 21) rfl rfl Tryd.func57 (by kernel_rfl) rfl #[.string a0, .agg #[.int .i32 ((rd_T35 t104 x5_1).f0), .int .i64 ((rd_T35 t104 x5_1).f1), .int .i64 ((rd_T35 t104 x5_1).f2), .bool ((rd_T35 t104 x5_1).f3)]] rfl (by (try simp only [List.map_toArray, List.map_cons, List.map_nil]); first | done | rfl | (simp only [List.length_drop, List.length_take]; rfl)) ?_; (with_reducible refine (cognateref01_shown.calls k1 a0 ((rd_T35 t104 x5_1).f0) ((rd_T35 t104 x5_1).f1) ((rd_T35 t104 x5_1).f2) ((rd_T35 t104 x5_1).f3) t108 _ A8.out).mono ?_); rintro e w11 ⟨rfl, hb⟩; refine ⟨_, rfl, ?_⟩; have n0_ := Aside0.mk (Kd.R_below (by (with_reducible repeat (first | apply Kd.R_alloc | apply Kd.R_drewN | apply Kd.R_drew)); exact HO_3.out) hb); have n1_ := Aside0.mk (Kd.R_below (by (with_reducible repeat (first | apply Kd.R_alloc | apply Kd.R_drewN | apply Kd.R_drew)); exact HO_4.out) hb); have n2_ := Aside0.mk (below_step (by repeat (first | (with_reducible first | exact HB.out | apply below_alloc | apply pw_below_drewN | apply below_drew1) | exact HB.out)) hb); clear HO_3; clear HO_4; clear HB; have HO_3 := n0_; have HO_4 := n1_; have HB := n2_; clear n0_ n1_ n2_; (try clear hb); (try clear hb2); (try clear hk); (try clear hi)) | (at_builtin; refine print_append_str (w0 := w) w.heap.size rfl (.tmp 15) _ 54 9 5 rfl Tryd.underlying54 Tryd.underlying9 info5 u3 x3_1 t108 rfl rfl ?aO ?aB ?aS ?aL ?_; (case aB => exact (by repeat (first | (with_reducible first | exact HB.out | apply below_alloc | apply pw_below_drewN | apply below_drew1) | exact HB.out))); (case aO => exact (Kd.own_of_R (by (with_reducible repeat (first | apply Kd.R_alloc | apply Kd.R_drewN | apply Kd.R_drew)); exact HO_3.out))); (case aS => exact (below_size (by repeat (first | (with_reducible first | exact HB.out | apply below_alloc | apply pw_below_drewN | apply below_drew1) | exact HB.out)))); (case aL => have := LMc9.out; omega); intro v110 w12 ho0 hb hg; have ho := Kd.R_of_own (h1 := fun _ => rfl) (ok := fun _ => True) ho0 (fun _ _ => trivial); clear ho0; have hat := True.intro; rw [← Ny109.out] at ho; change Kd.R (Kd.int .u8) 5 w12 w.heap.size (fun _ => True) v110 y109 at ho; have n0_ := Aside0.mk (Kd.R_over' (by (with_reducible repeat (first | apply Kd.R_alloc | apply Kd.R_drewN | apply Kd.R_drew)); exact HO_4.out) (Kd.R_typed (by (with_reducible repeat (first | apply Kd.R_alloc | apply Kd.R_drewN | apply Kd.R_drew)); exact HO_3.out)) (by decide) hg); have n1_ := Aside0.mk (hb); have n2_ := Aside0.mk (ho); clear HO_4; clear HB; clear HO_3; have HO_4 := n0_; have HB := n1_; have HO111 := n2_; clear n0_ n1_ n2_; clear ho hb hg hat))
            go_roundg k1
            case measure => have := HK1.out; omega
            case rel => exact ⟨(y109), (wrap64 (x5_1 + 1)), (by first | rfl | (simp; done) | (simp [*]; done)), H', ⟨by have := HK1.out; omega⟩, ⟨by (with_reducible repeat (first | apply Kd.R_alloc | apply Kd.R_drewN | apply Kd.R_drew)); exact HO111.out⟩, ⟨by (with_reducible repeat (first | apply Kd.R_alloc | apply Kd.R_drewN | apply Kd.R_drew)); exact HO_4.out⟩, ⟨by repeat (first | (with_reducible first | exact HB.out | apply below_alloc | apply pw_below_drewN | apply below_drew1) | exact HB.out)⟩⟩
          · rw [if_neg c9] at H
            exact absurd H (by simp)
        · rw [if_neg c7] at H
          exact absurd H (by simp)
      · rw [if_neg c6] at H
        have c6b0 : decide (x5_1 < (t104.length : Int)) = false := decide_eq_false c6
        clear c6
        by_cases c13 : x3_1.length < 140737488355328
        · rw [if_pos c13] at H
          have LMc13 := Aside0.mk c13
          clear c13
          obtain ⟨y112, hy112⟩ : ∃ y_ : List Int, y_ = (x3_1 ++ [34]) := ⟨_, rfl⟩
          replace H : (some (strOfNums y112)) = some r := by first | (rw [hy112]; with_reducible exact H) | (have H2_ := (Option.bind_some _ _).symm.trans H; rw [hy112]; with_reducible exact H2_) | (have H2_ := (Option.bind_some _ _).symm.trans H; with_reducible exact H2_) | with_reducible exact H | (rw [hy112]; exact H) | exact H
          have Ny112 := Aside0.mk hy112
          clear hy112
          obtain rfl := Option.some.inj H
          obtain ⟨Ao14, co14, eo14⟩ := Kd.R_slice HO_4.out
          subst eo14
          go_wp2_with (first | ((with_reducible refine gate_builtin (b := .append) (xs := #[.tmp 23, .tmp 24]) rfl ?_); at_builtin; refine Kd.R_append (Kd.int .u8) (w0 := w) w.heap.size rfl (.tmp 23) (.tmp 24) 54 5 (.int .u8 0) 1 rfl Tryd.underlying54 info5 rfl (by decide) (by omega) u3 x3_1 34 [.int .u8 34] (fun _ => True) (fun _ => False) rfl rfl ?aP (fun _ hk => hk.elim) ?aF ?aO ?aB ?aS ?aL ?_; (case aP => exact rfl); (case aB => exact (by repeat (first | (with_reducible first | exact HB.out | apply below_alloc | apply pw_below_drewN | apply below_drew1) | exact HB.out))); (case aF => exact (fun _ _ => trivial)); (case aO => exact (by (with_reducible repeat (first | apply Kd.R_alloc | apply Kd.R_drewN | apply Kd.R_drew)); exact HO_3.out)); (case aS => exact (below_size (by repeat (first | (with_reducible first | exact HB.out | apply below_alloc | apply pw_below_drewN | apply below_drew1) | exact HB.out)))); (case aL => have := LMc13.out; omega); intro v113 w15 ho hb hg hat; rw [← Ny112.out] at ho; have n0_ := Aside0.mk (Kd.R_over' (by (with_reducible repeat (first | apply Kd.R_alloc | apply Kd.R_drewN | apply Kd.R_drew)); exact HO_4.out) (Kd.R_typed (by (with_reducible repeat (first | apply Kd.R_alloc | apply Kd.R_drewN | apply Kd.R_drew)); exact HO_3.out)) (by decide) hg); have n1_ := Aside0.mk (hb); have n2_ := Aside0.mk (ho); clear HO_4; clear HB; clear HO_3; have HO_4 := n0_; have HB := n1_; have HO114 := n2_; clear n0_ n1_ n2_; clear ho hb hg hat; have hcv16 := own_string (P := Tryd.prog) Tryd.underlying54 Tryd.underlying5 Tryd.underlying9 (Kd.own_of_R HO114.out)))
          go_ret
          exact ⟨by first | rfl | (simp [errW_none, errW_some] <;> rfl) | (simp [*, errW_none, errW_some] <;> rfl), by repeat (first | (with_reducible first | exact HB.out | apply below_alloc | apply pw_below_drewN | apply below_drew1) | exact HB.out)⟩
        · rw [if_neg c13] at H
          exact absurd H (by simp)

end Go.Proofs.YtglaagoblcpggaaDoor.R
end

section
namespace Go.Proofs.YtglaagoblcpggaaDoor.R
open Go.RowKit Go.Proofs.YtglaagoblcpggaaDoorW.PrintWords Go.Proofs.YtglaagoblcpggaaDoorW.PrintLast Go.Proofs.YtglaagoblcpggaaDoorW.PrintMore
attribute [local go_sem] max2_int min2_int max_two min_two max_three min_three max_four min_four   -- for this text's walks alone
set_option linter.unusedVariables false
set_option linter.unusedSimpArgs false

/-! ### cognateref01_Quote: function 28 -/
def cognateref01_Quote.f (k : Nat) (a0 : ByteArray) : Option (ByteArray × Int) := if (a0.size : Int) > 65536 then (some ((⟨#[]⟩ : ByteArray), 3)) else ((cognateref01_quote.f k a0).bind fun t101 => (some (t101, 0)))
theorem cognateref01_Quote.mono : ∀ a0 k, LeO (cognateref01_Quote.f k a0) (cognateref01_Quote.f (k + 1) a0) := by
  intro a0 k
  unfold cognateref01_Quote.f
  repeat' first
      | (with_reducible exact cognateref01_quote.mono _ _)
      | (with_reducible exact LeO.refl _)
      | (with_reducible exact LeO.none _)
      | (with_reducible refine LeO.ite ?_ ?_)
      | (with_reducible refine LeO.bind ?_ (fun _ => ?_))
      | exact cognateref01_quote.mono _ _
      | exact LeO.none _
      | refine LeO.ite ?_ ?_
      | refine LeO.bind ?_ (fun _ => ?_)
set_option maxHeartbeats 8000000 in
set_option maxRecDepth 100000 in
theorem cognateref01_Quote.calls (k : Nat) (a0 : ByteArray) (r1 : ByteArray) (r2 : Int) (w : World) (h : cognateref01_Quote.f k a0 = some (r1, r2)) :
    Calls Tryd.prog 28 #[.string a0] w fun e w' => e = .returned (.tuple #[.string r1, .int .i64 r2]) ∧ Below w.heap.size w w' := by
  have HB := Aside0.mk (Below.refl w.heap.size w)
  have H : (if (a0.size : Int) > 65536 then (some ((⟨#[]⟩ : ByteArray), 3)) else ((cognateref01_quote.f k a0).bind fun t101 => (some (t101, 0)))) = some (r1, r2) := h
  clear h
  by_cases c2 : (a0.size : Int) > 65536
  · rw [if_pos c2] at H
    have c2b0 : decide (65536 < (a0.size : Int)) = true := decide_eq_true c2
    have c2b1 : decide (65536 < a0.size) = true := decide_eq_true (by omega)
    clear c2
    simp only [Option.some.injEq, Prod.mk.injEq] at H
    obtain ⟨rfl, rfl⟩ := H
    go_enter Tryd.func28, Tryd.ntmps28
    go_wp2
    go_ret2
    exact ⟨by first | rfl | (simp [errW_none, errW_some] <;> rfl) | (simp [*, errW_none, errW_some] <;> rfl), by repeat (first | (with_reducible first | exact HB.out | apply below_alloc | apply pw_below_drewN | apply below_drew1) | exact HB.out)⟩
  · rw [if_neg c2] at H
    have c2b0 : decide (65536 < (a0.size : Int)) = false := decide_eq_false c2
    have c2b1 : decide (65536 < a0.size) = false := decide_eq_false (by omega)
    clear c2
    replace H := Option.bind_eq_some_iff.mp H
    obtain ⟨t101, A30, H⟩ := H
    replace H : (some (t101, 0)) = some (r1, r2) := H
    have A3 := Aside0.mk A30
    clear A30
    simp only [Option.some.injEq, Prod.mk.injEq] at H
    obtain ⟨rfl, rfl⟩ := H
    go_enter Tryd.func28, Tryd.ntmps28
    go_wp2_with (first | ((with_reducible refine gate_callee (f := 44) rfl ?_); refine goesL_ (some 8) rfl rfl Tryd.func44 (by kernel_rfl) rfl #[.string a0] rfl (by (try simp only [List.map_toArray, List.map_cons, List.map_nil]); first | done | rfl | (simp only [List.length_drop, List.length_take]; rfl)) ?_; (with_reducible refine (cognateref01_quote.calls k a0 t101 _ A3.out).mono ?_); rintro e w4 ⟨rfl, hb⟩; refine ⟨_, rfl, ?_⟩; have n0_ := Aside0.mk (below_step (by repeat (first | (with_reducible first | exact HB.out | apply below_alloc | apply pw_below_drewN | apply below_drew1) | exact HB.out)) hb); clear HB; have HB := n0_; clear n0_; (try clear hb); (try clear hb2); (try clear hk); (try clear hi)))
    go_ret2
    exact ⟨by first | rfl | (simp [errW_none, errW_some] <;> rfl) | (simp [*, errW_none, errW_some] <;> rfl), by repeat (first | (with_reducible first | exact HB.out | apply below_alloc | apply pw_below_drewN | apply below_drew1) | exact HB.out)⟩

end Go.Proofs.YtglaagoblcpggaaDoor.R
end

section
namespace Go.Proofs.YtglaagoblcpggaaDoor.R
open Go.RowKit Go.Proofs.YtglaagoblcpggaaDoorW.PrintWords Go.Proofs.YtglaagoblcpggaaDoorW.PrintLast Go.Proofs.YtglaagoblcpggaaDoorW.PrintMore
attribute [local go_sem] max2_int min2_int max_two min_two max_three min_three max_four min_four   -- for this text's walks alone
set_option linter.unusedVariables false
set_option linter.unusedSimpArgs false

/-! ### cognateref01_Plain: function 30 -/
mutual
def cognateref01_Plain.j0 : Nat → ByteArray → Bool → Option (ByteArray × Int × Int)
  | 0, _, _ => none
  | k + 1, x0, x18 => if x18 = true then (some ((⟨#[]⟩ : ByteArray), 0, 10)) else (cognateref01_Plain.l0 k x0 ([] : List Int) 1)
def cognateref01_Plain.l0 : Nat → ByteArray → List Int → Int → Option (ByteArray × Int × Int)
  | 0, _, _, _ => none
  | k + 1, x0, x5, x6 => if x6 < (x0.size : Int) then (if 0 ≤ x6 then (cognateref01_Plain.j2 k x0 x5 x6 ((bt x0 x6) != 34)) else (none)) else (cognateref01_Plain.j2 k x0 x5 x6 false)
def cognateref01_Plain.j2 : Nat → ByteArray → List Int → Int → Bool → Option (ByteArray × Int × Int)
  | 0, _, _, _, _ => none
  | k + 1, x0, x5, x6, x28 => if x28 = true then ((cognateref01_thing.f k x0 x6).bind fun bt101 => (if bt101.2 = 0 then (some ((⟨#[]⟩ : ByteArray), x6, 10)) else (if x5.length + bt101.1.length < 140737488355328 then (cognateref01_Plain.l0 k x0 (x5 ++ bt101.1) (wrap64 (x6 + bt101.2))) else (none)))) else (if x6 ≥ (x0.size : Int) then (some ((⟨#[]⟩ : ByteArray), x6, 10)) else (if (wrap64 (x6 + 1)) < (x0.size : Int) then (some ((⟨#[]⟩ : ByteArray), wrap64 (x6 + 1), 10)) else (if (x5.length : Int) > 65536 then (some ((⟨#[]⟩ : ByteArray), 0, 3)) else ((cognateref01_quote.f k (strOfNums x5)).bind fun t108 => (if t108.toList = x0.toList then (some (strOfNums x5, 0, 0)) else (some ((⟨#[]⟩ : ByteArray), 0, 10)))))))
end
def cognateref01_Plain.f (k : Nat) (a0 : ByteArray) : Option (ByteArray × Int × Int) := if (a0.size : Int) > 1048576 then (some ((⟨#[]⟩ : ByteArray), 0, 3)) else (if a0.toList = ([] : List UInt8) then (cognateref01_Plain.j0 k a0 true) else (if 0 < (a0.size : Int) then (cognateref01_Plain.j0 k a0 ((bt a0 0) != 34)) else (none)))
theorem cognateref01_Plain.mono_l : ∀ k, (∀ y0 y1, LeO (cognateref01_Plain.j0 k y0 y1) (cognateref01_Plain.j0 (k + 1) y0 y1)) ∧ (∀ y0 y1 y2, LeO (cognateref01_Plain.l0 k y0 y1 y2) (cognateref01_Plain.l0 (k + 1) y0 y1 y2)) ∧ (∀ y0 y1 y2 y3, LeO (cognateref01_Plain.j2 k y0 y1 y2 y3) (cognateref01_Plain.j2 (k + 1) y0 y1 y2 y3))
  | 0 => ⟨fun _ _ r h => by simp [cognateref01_Plain.j0] at h, fun _ _ _ r h => by simp [cognateref01_Plain.l0] at h, fun _ _ _ _ r h => by simp [cognateref01_Plain.j2] at h⟩
  | k + 1 => by
    obtain ⟨ih0, ih1, ih2⟩ := cognateref01_Plain.mono_l k
    refine ⟨?_, ?_, ?_⟩
    · intro y0 y1
      unfold cognateref01_Plain.j0
      repeat' first
      | (with_reducible exact ih0 _ _)
      | (with_reducible exact ih1 _ _ _)
      | (with_reducible exact ih2 _ _ _ _)
      | (with_reducible exact cognateref01_quote.mono _ _)
      | (with_reducible exact cognateref01_thing.mono _ _ _)
      | (with_reducible exact LeO.refl _)
      | (with_reducible exact LeO.none _)
      | (with_reducible refine LeO.ite ?_ ?_)
      | (with_reducible refine LeO.bind ?_ (fun _ => ?_))
      | exact ih0 _ _
      | exact ih1 _ _ _
      | exact ih2 _ _ _ _
      | exact cognateref01_quote.mono _ _
      | exact cognateref01_thing.mono _ _ _
      | exact LeO.none _
      | refine LeO.ite ?_ ?_
      | refine LeO.bind ?_ (fun _ => ?_)
    · intro y0 y1 y2
      unfold cognateref01_Plain.l0
      repeat' first
      | (with_reducible exact ih0 _ _)
      | (with_reducible exact ih1 _ _ _)
      | (with_reducible exact ih2 _ _ _ _)
      | (with_reducible exact cognateref01_quote.mono _ _)
      | (with_reducible exact cognateref01_thing.mono _ _ _)
      | (with_reducible exact LeO.refl _)
      | (with_reducible exact LeO.none _)
      | (with_reducible refine LeO.ite ?_ ?_)
      | (with_reducible refine LeO.bind ?_ (fun _ => ?_))
      | exact ih0 _ _
      | exact ih1 _ _ _
      | exact ih2 _ _ _ _
      | exact cognateref01_quote.mono _ _
      | exact cognateref01_thing.mono _ _ _
      | exact LeO.none _
      | refine LeO.ite ?_ ?_
      | refine LeO.bind ?_ (fun _ => ?_)
    · intro y0 y1 y2 y3
      unfold cognateref01_Plain.j2
      repeat' first
      | (with_reducible exact ih0 _ _)
      | (with_reducible exact ih1 _ _ _)
      | (with_reducible exact ih2 _ _ _ _)
      | (with_reducible exact cognateref01_quote.mono _ _)
      | (with_reducible exact cognateref01_thing.mono _ _ _)
      | (with_reducible exact LeO.refl _)
      | (with_reducible exact LeO.none _)
      | (with_reducible refine LeO.ite ?_ ?_)
      | (with_reducible refine LeO.bind ?_ (fun _ => ?_))
      | exact ih0 _ _
      | exact ih1 _ _ _
      | exact ih2 _ _ _ _
      | exact cognateref01_quote.mono _ _
      | exact cognateref01_thing.mono _ _ _
      | exact LeO.none _
      | refine LeO.ite ?_ ?_
      | refine LeO.bind ?_ (fun _ => ?_)
theorem cognateref01_Plain.mono : ∀ a0 k, LeO (cognateref01_Plain.f k a0) (cognateref01_Plain.f (k + 1) a0) := by
  intro a0 k
  obtain ⟨ih0, ih1, ih2⟩ := cognateref01_Plain.mono_l k
  unfold cognateref01_Plain.f
  repeat' first
      | (with_reducible exact ih0 _ _)
      | (with_reducible exact ih1 _ _ _)
      | (with_reducible exact ih2 _ _ _ _)
      | (with_reducible exact cognateref01_quote.mono _ _)
      | (with_reducible exact cognateref01_thing.mono _ _ _)
      | (with_reducible exact LeO.refl _)
      | (with_reducible exact LeO.none _)
      | (with_reducible refine LeO.ite ?_ ?_)
      | (with_reducible refine LeO.bind ?_ (fun _ => ?_))
      | exact ih0 _ _
      | exact ih1 _ _ _
      | exact ih2 _ _ _ _
      | exact cognateref01_quote.mono _ _
      | exact cognateref01_thing.mono _ _ _
      | exact LeO.none _
      | refine LeO.ite ?_ ?_
      | refine LeO.bind ?_ (fun _ => ?_)
set_option maxHeartbeats 8000000 in
set_option maxRecDepth 100000 in
theorem cognateref01_Plain.calls (k : Nat) (a0 : ByteArray) (r1 : ByteArray) (r2 : Int) (r3 : Int) (w : World) (h : cognateref01_Plain.f k a0 = some (r1, r2, r3)) :
    Calls Tryd.prog 30 #[.string a0] w fun e w' => e = .returned (.tuple #[.string r1, .int .i64 r2, .int .i64 r3]) ∧ Below w.heap.size w w' := by
  have HB := Aside0.mk (Below.refl w.heap.size w)
  have H : (if (a0.size : Int) > 1048576 then (some ((⟨#[]⟩ : ByteArray), 0, 3)) else (if a0.toList = ([] : List UInt8) then (cognateref01_Plain.j0 k a0 true) else (if 0 < (a0.size : Int) then (cognateref01_Plain.j0 k a0 ((bt a0 0) != 34)) else (none)))) = some (r1, r2, r3) := h
  clear h
  by_cases c2 : (a0.size : Int) > 1048576
  · rw [if_pos c2] at H
    have c2b0 : decide (1048576 < (a0.size : Int)) = true := decide_eq_true c2
    have c2b1 : decide (1048576 < a0.size) = true := decide_eq_true (by omega)
    clear c2
    simp only [Option.some.injEq, Prod.mk.injEq] at H
    obtain ⟨rfl, rfl, rfl⟩ := H
    go_enter Tryd.func30, Tryd.ntmps30
    go_wp2
    go_ret3
    exact ⟨by first | rfl | (simp [errW_none, errW_some] <;> rfl) | (simp [*, errW_none, errW_some] <;> rfl) | (simp [bne_nil_bytes]; done), by repeat (first | (with_reducible first | exact HB.out | apply below_alloc | apply pw_below_drewN | apply below_drew1) | exact HB.out)⟩
  · rw [if_neg c2] at H
    have c2b0 : decide (1048576 < (a0.size : Int)) = false := decide_eq_false c2
    have c2b1 : decide (1048576 < a0.size) = false := decide_eq_false (by omega)
    clear c2
    have HC3 := Aside0.mk H
    clear H
    go_enter Tryd.func30, Tryd.ntmps30
    go_upto_region 3 with (fail)
    go_cut [18] (fun v18 wc => ∃ (kq : Nat) (x18_2 : Bool), v18 = .bool x18_2 ∧ Aside0 (cognateref01_Plain.j0 kq a0 x18_2 = some (r1, r2, r3)) ∧ Aside0 (kq ≤ k) ∧ Aside0 (Below w.heap.size w wc))
    case first =>
      have H := HC3.out
      clear HC3
      by_cases c4 : a0.toList = ([] : List UInt8)
      · rw [if_pos c4] at H
        have c4b0 : (a0.toList == ([] : List UInt8)) = true := beq_iff_eq.mpr c4
        have c4b1 : (a0.toList != ([] : List UInt8)) = false := bne_eq_false_iff_eq.mpr c4
        clear c4
        (first | rw [c4b0] | (simp only [i64_w, i32_w]; rw [c4b0]) | skip)
        have H' := Aside0.mk H
        clear H
        go_wp2
        go_meet
        case rel => exact ⟨_, (true), (by first | rfl | (simp; done) | (simp [*]; done) | (simp [bne_nil_bytes]; done)), H', ⟨by first | omega | exact Nat.le_refl _⟩, ⟨by repeat (first | (with_reducible first | exact HB.out | apply below_alloc | apply pw_below_drewN | apply below_drew1) | exact HB.out)⟩⟩
      · rw [if_neg c4] at H
        have c4b0 : (a0.toList == ([] : List UInt8)) = false := beq_eq_false_iff_ne.mpr c4
        have c4b1 : (a0.toList != ([] : List UInt8)) = true := bne_iff_ne.mpr c4
        (first | rw [c4b0] | (simp only [i64_w, i32_w]; rw [c4b0]) | skip)
        by_cases c5 : 0 < (a0.size : Int)
        · rw [if_pos c5] at H
          have c5b0 : decide (0 < (a0.size : Int)) = true := decide_eq_true c5
          have c5b1 : decide (0 < a0.size) = true := decide_eq_true (by omega)
          clear c5
          have H' := Aside0.mk H
          clear H
          have p6 : 0 ≤ (0 : Int) := (by omega)
          have q6 : 0 < a0.size := (by have : (0 : Int) < (a0.size : Int) := of_decide_eq_true (by first | (with_reducible assumption) | assumption); omega)
          have hx6 : ∀ h : 0 < a0.size, ((a0[0]'h).toNat : Int) = bt a0 0 := bt_at a0 0
          clear p6
          have qi6 : (0 < (a0.size : Int)) = True := eq_true (of_decide_eq_true (by first | (with_reducible assumption) | assumption))
          replace q6 := eq_true q6
          go_wp2
          go_meet
          case rel => exact ⟨_, (((bt a0 0) != 34)), (by first | rfl | (simp; done) | (simp [*]; done) | (simp [bne_nil_bytes]; done)), H', ⟨by first | omega | exact Nat.le_refl _⟩, ⟨by repeat (first | (with_reducible first | exact HB.out | apply below_alloc | apply pw_below_drewN | apply below_drew1) | exact HB.out)⟩⟩
        · rw [if_neg c5] at H
          exact absurd H (by simp)
    case rest =>
      clear HC3
      try clear c2
      try clear c2b0
      try clear c2b1
      try clear p2
      try clear c3
      try clear c4
      try clear c4b0
      try clear c4b1
      try clear c5
      try clear c5b0
      try clear c5b1
      try clear p6
      try clear q6
      try clear hx6
      try clear qi6
      try clear p6
      try clear q6
      obtain ⟨kq, x18_2, rfl, HA, HJ2, HB⟩ := hcut
      cases kq with
      | zero => exact absurd HA.out (by simp [cognateref01_Plain.j0])
      | succ kj2 =>
        have H := HA.out
        clear HA
        simp only [cognateref01_Plain.j0] at H
        by_cases c7 : x18_2 = true
        · subst c7
          have H1 : (some ((⟨#[]⟩ : ByteArray), 0, 10)) = some (r1, r2, r3) := by rw [if_pos rfl] at H; exact H
          clear H
          have H := H1
          clear H1
          simp only [Option.some.injEq, Prod.mk.injEq] at H
          obtain ⟨rfl, rfl, rfl⟩ := H
          go_wp2
          go_ret3
          exact ⟨by first | rfl | (simp [errW_none, errW_some] <;> rfl) | (simp [*, errW_none, errW_some] <;> rfl) | (simp [bne_nil_bytes]; done), by repeat (first | (with_reducible first | exact HB.out | apply below_alloc | apply pw_below_drewN | apply below_drew1) | exact HB.out)⟩
        · replace c7 := Bool.eq_false_iff.mpr c7
          subst c7
          have H1 : (cognateref01_Plain.l0 kj2 a0 ([] : List Int) 1) = some (r1, r2, r3) := by rw [if_neg (show ¬ (false = true) by decide)] at H; exact H
          clear H
          have H := H1
          clear H1
          have H' := Aside0.mk H
          clear H
          go_wp2
          go_loopg [5, 6] kj2 (fun kq v5 v6 w' => ∃ (x5_2 : List Int) (x6_2 : Int), v6 = .int .i64 x6_2 ∧ Aside0 (cognateref01_Plain.l0 kq a0 x5_2 x6_2 = some (r1, r2, r3)) ∧ Aside0 (kq ≤ kj2) ∧ Aside0 (Kd.R (Kd.int .u8) 5 w' w.heap.size (fun _ => True) v5 x5_2) ∧ Aside0 (Below w.heap.size w w'))
          case atStart => exact ⟨(([] : List Int)), (1), (by first | rfl | (simp; done) | (simp [*]; done) | (simp [bne_nil_bytes]; done)), H', ⟨Nat.le_refl _⟩, ⟨by first | exact Kd.R_nil _ _ _ _ _ | exact Kd.N_nil _ _ _ _ _ | exact Kd.V_nil _ _ _ _ _ | exact Kd.Q_nil _ _ _ _ _ | exact Kd.S_nil _ _ _ _ _⟩, ⟨by repeat (first | (with_reducible first | exact HB.out | apply below_alloc | apply pw_below_drewN | apply below_drew1) | exact HB.out)⟩⟩
          case round =>
            clear H'
            try clear c2
            try clear c2b0
            try clear c2b1
            try clear p2
            try clear c3
            try clear c4
            try clear c4b0
            try clear c4b1
            try clear c5
            try clear c5b0
            try clear c5b1
            try clear p6
            try clear q6
            try clear hx6
            try clear qi6
            try clear c7
            try clear p2
            try clear p6
            try clear q6
            obtain ⟨x5_2, x6_2, rfl, HA, HK2, HO_5, HB⟩ := hrel
            cases gk with
            | zero => exact absurd HA.out (by simp [cognateref01_Plain.l0])
            | succ k2 =>
              have H := HA.out
              clear HA
              simp only [cognateref01_Plain.l0] at H
              have HC8 := Aside0.mk H
              clear H
              go_upto_region 7 with (fail)
              go_cut [28] (fun v28 wc => ∃ (kq : Nat) (x28_7 : Bool), v28 = .bool x28_7 ∧ Aside0 (cognateref01_Plain.j2 kq a0 x5_2 x6_2 x28_7 = some (r1, r2, r3)) ∧ Aside0 (kq ≤ k2) ∧ Aside0 (Kd.R (Kd.int .u8) 5 wc w.heap.size (fun _ => True) u5 x5_2) ∧ Aside0 (Below w.heap.size w wc))
              case first =>
                have H := HC8.out
                clear HC8
                by_cases c9 : x6_2 < (a0.size : Int)
                · rw [if_pos c9] at H
                  have c9b0 : decide (x6_2 < (a0.size : Int)) = true := decide_eq_true c9
                  clear c9
                  (first | rw [c9b0] | (simp only [i64_w, i32_w]; rw [c9b0]) | skip)
                  by_cases c10 : 0 ≤ x6_2
                  · rw [if_pos c10] at H
                    have c10b0 : decide (0 ≤ x6_2) = true := decide_eq_true c10
                    clear c10
                    have H' := Aside0.mk H
                    clear H
                    have p11 : 0 ≤ (x6_2 : Int) := of_decide_eq_true (by first | (with_reducible assumption) | assumption)
                    have q11 : x6_2 < (a0.size : Int) := of_decide_eq_true (by first | (with_reducible assumption) | assumption)
                    have hx11 := bt_at a0 x6_2
                    replace p11 := eq_true p11
                    replace q11 := eq_true q11
                    go_wp2
                    go_meet
                    case rel => exact ⟨_, (((bt a0 x6_2) != 34)), (by first | rfl | (simp; done) | (simp [*]; done) | (simp [bne_nil_bytes]; done)), H', ⟨by have := HJ2.out; have := HK2.out; first | omega | exact Nat.le_refl _⟩, ⟨by (with_reducible repeat (first | apply Kd.R_alloc | apply Kd.R_drewN | apply Kd.R_drew)); exact HO_5.out⟩, ⟨by repeat (first | (with_reducible first | exact HB.out | apply below_alloc | apply pw_below_drewN | apply below_drew1) | exact HB.out)⟩⟩
                  · rw [if_neg c10] at H
                    exact absurd H (by simp)
                · rw [if_neg c9] at H
                  have c9b0 : decide (x6_2 < (a0.size : Int)) = false := decide_eq_false c9
                  clear c9
                  (first | rw [c9b0] | (simp only [i64_w, i32_w]; rw [c9b0]) | skip)
                  have H' := Aside0.mk H
                  clear H
                  go_wp2
                  go_meet
                  case rel => exact ⟨_, (false), (by first | rfl | (simp; done) | (simp [*]; done) | (simp [bne_nil_bytes]; done)), H', ⟨by have := HJ2.out; have := HK2.out; first | omega | exact Nat.le_refl _⟩, ⟨by (with_reducible repeat (first | apply Kd.R_alloc | apply Kd.R_drewN | apply Kd.R_drew)); exact HO_5.out⟩, ⟨by repeat (first | (with_reducible first | exact HB.out | apply below_alloc | apply pw_below_drewN | apply below_drew1) | exact HB.out)⟩⟩
              case rest =>
                clear HC8
                try clear c1
                try clear p1
                try clear q1
                try clear hx1
                try clear c2
                try clear c2b0
                try clear c2b1
                try clear p2
                try clear c3
                try clear c4
                try clear c4b0
                try clear c4b1
                try clear c5
                try clear c5b0
                try clear c5b1
                try clear p6
                try clear q6
                try clear hx6
                try clear qi6
                try clear c7
                try clear c9
                try clear c9b0
                try clear c10
                try clear c10b0
                try clear p11
                try clear q11
                try clear hx11
                try clear p11
                try clear p2
                try clear p6
                try clear q11
                try clear q6
                obtain ⟨kq, x28_7, rfl, HA, HJ7, HO_5, HB⟩ := hcut
                cases kq with
                | zero => exact absurd HA.out (by simp [cognateref01_Plain.j2])
                | succ kj7 =>
                  have H := HA.out
                  clear HA
                  simp only [cognateref01_Plain.j2] at H
                  by_cases c12 : x28_7 = true
                  · subst c12
                    have H1 : ((cognateref01_thing.f kj7 a0 x6_2).bind fun bt101 => (if bt101.2 = 0 then (some ((⟨#[]⟩ : ByteArray), x6_2, 10)) else (if x5_2.length + bt101.1.length < 140737488355328 then (cognateref01_Plain.l0 kj7 a0 (x5_2 ++ bt101.1) (wrap64 (x6_2 + bt101.2))) else (none)))) = some (r1, r2, r3) := by rw [if_pos rfl] at H; exact H
                    clear H
                    have H := H1
                    clear H1
                    replace H := Option.bind_eq_some_iff.mp H
                    obtain ⟨⟨t101, t102⟩, A130, H⟩ := H
                    replace H : (if t102 = 0 then (some ((⟨#[]⟩ : ByteArray), x6_2, 10)) else (if x5_2.length + t101.length < 140737488355328 then (cognateref01_Plain.l0 kj7 a0 (x5_2 ++ t101) (wrap64 (x6_2 + t102))) else (none))) = some (r1, r2, r3) := H
                    have A13 := Aside0.mk A130
                    clear A130
                    by_cases c14 : t102 = 0
                    · rw [if_pos c14] at H
                      have c14b0 : (t102 == 0) = true := beq_iff_eq.mpr c14
                      have c14b1 : (t102 != 0) = false := bne_eq_false_iff_eq.mpr c14
                      clear c14
                      simp only [Option.some.injEq, Prod.mk.injEq] at H
                      obtain ⟨rfl, rfl, rfl⟩ := H
                      go_wp2_with (first | ((with_reducible refine gate_callee (f := 50) rfl ?_); refine goesL_ (some 32) rfl rfl Tryd.func50 (by kernel_rfl) rfl #[.string a0, .int .i64 x6_2] rfl (by (try simp only [List.map_toArray, List.map_cons, List.map_nil]); first | done | rfl | (simp only [List.length_drop, List.length_take]; rfl)) ?_; (with_reducible refine (cognateref01_thing.calls kj7 a0 x6_2 t101 t102 _ A13.out).mono ?_); rintro e w15 ⟨v103, rfl, ho0, hb⟩; refine ⟨_, rfl, ?_⟩; have n0_ := Aside0.mk (Kd.R_elder' (by (with_reducible repeat (first | apply Kd.R_alloc | apply Kd.R_drewN | apply Kd.R_drew)); exact HO_5.out) (Kd.R_base ho0) hb); have n1_ := Aside0.mk (Kd.R_lower (Kd.R_new' ho0 (Kd.R_lt (by (with_reducible repeat (first | apply Kd.R_alloc | apply Kd.R_drewN | apply Kd.R_drew)); exact HO_5.out))) (below_size (by repeat (first | (with_reducible first | exact HB.out | apply below_alloc | apply pw_below_drewN | apply below_drew1) | exact HB.out)))); have n2_ := Aside0.mk (below_step (by repeat (first | (with_reducible first | exact HB.out | apply below_alloc | apply pw_below_drewN | apply below_drew1) | exact HB.out)) hb); clear HO_5; clear HB; have HO_5 := n0_; have HO104 := n1_; have HB := n2_; clear n0_ n1_ n2_; (try clear hb); (try clear hb2); (try clear hk); (try clear hi); (try clear ho0)))
                      go_ret3
                      exact ⟨by first | rfl | (simp [errW_none, errW_some] <;> rfl) | (simp [*, errW_none, errW_some] <;> rfl) | (simp [bne_nil_bytes]; done), by repeat (first | (with_reducible first | exact HB.out | apply below_alloc | apply pw_below_drewN | apply below_drew1) | exact HB.out)⟩
                    · rw [if_neg c14] at H
                      have c14b0 : (t102 == 0) = false := beq_eq_false_iff_ne.mpr c14
                      have c14b1 : (t102 != 0) = true := bne_iff_ne.mpr c14
                      by_cases c16 : x5_2.length + t101.length < 140737488355328
                      · rw [if_pos c16] at H
                        have LMc16 := Aside0.mk c16
                        clear c16
                        obtain ⟨y105, hy105⟩ : ∃ y_ : List Int, y_ = (x5_2 ++ t101) := ⟨_, rfl⟩
                        replace H : (cognateref01_Plain.l0 kj7 a0 y105 (wrap64 (x6_2 + t102))) = some (r1, r2, r3) := by first | (rw [hy105]; with_reducible exact H) | (have H2_ := (Option.bind_some _ _).symm.trans H; rw [hy105]; with_reducible exact H2_) | (have H2_ := (Option.bind_some _ _).symm.trans H; with_reducible exact H2_) | with_reducible exact H | (rw [hy105]; exact H) | exact H
                        have Ny105 := Aside0.mk hy105
                        clear hy105
                        have H' := Aside0.mk H
                        clear H
                        go_wp2_with (first | ((with_reducible refine gate_callee (f := 50) rfl ?_); refine goesL_ (some 32) rfl rfl Tryd.func50 (by kernel_rfl) rfl #[.string a0, .int .i64 x6_2] rfl (by (try simp only [List.map_toArray, List.map_cons, List.map_nil]); first | done | rfl | (simp only [List.length_drop, List.length_take]; rfl)) ?_; (with_reducible refine (cognateref01_thing.calls kj7 a0 x6_2 t101 t102 _ A13.out).mono ?_); rintro e w17 ⟨v103, rfl, ho0, hb⟩; refine ⟨_, rfl, ?_⟩; have n0_ := Aside0.mk (Kd.R_elder' (by (with_reducible repeat (first | apply Kd.R_alloc | apply Kd.R_drewN | apply Kd.R_drew)); exact HO_5.out) (Kd.R_base ho0) hb); have n1_ := Aside0.mk (Kd.R_lower (Kd.R_new' ho0 (Kd.R_lt (by (with_reducible repeat (first | apply Kd.R_alloc | apply Kd.R_drewN | apply Kd.R_drew)); exact HO_5.out))) (below_size (by repeat (first | (with_reducible first | exact HB.out | apply below_alloc | apply pw_below_drewN | apply below_drew1) | exact HB.out)))); have n2_ := Aside0.mk (below_step (by repeat (first | (with_reducible first | exact HB.out | apply below_alloc | apply pw_below_drewN | apply below_drew1) | exact HB.out)) hb); clear HO_5; clear HB; have HO_5 := n0_; have HO104 := n1_; have HB := n2_; clear n0_ n1_ n2_; (try clear hb); (try clear hb2); (try clear hk); (try clear hi); (try clear ho0); obtain ⟨Ao19, co19, eo19⟩ := Kd.R_slice HO104.out; subst eo19) | ((with_reducible refine gate_builtin (b := .append) (xs := #[.tmp 38, .tmp 39]) rfl ?_); at_builtin; refine Kd.R_append_rows (Kd.int .u8) (w0 := w) w.heap.size rfl (.tmp 38) (.tmp 39) 54 5 (.int .u8 0) 1 rfl Tryd.underlying54 info5 rfl (by decide) (by omega) u5 x5_2 t101 _ _ _ (fun k_ => some k_ ≠ (.slice Ao19 t101.length co19 : Value).ownBlock) (fun _ => False) rfl rfl ?aO ?aR (fun _ _ h => h) (fun _ h => h.elim) ?aF ?aB ?aS ?aL ?_; (case aR => repeat (first | exact (Kd.R_reads' HO104.out).2.2 | (with_reducible refine Kd.C_alloc ?_ _) | (with_reducible refine Kd.C_drewN ?_ _) | (with_reducible refine Kd.C_drew ?_))); (case aB => exact (by repeat (first | (with_reducible first | exact HB.out | apply below_alloc | apply pw_below_drewN | apply below_drew1) | exact HB.out))); (case aF => exact (fun k_ hk => Kd.fresh' (Kd.R_lt (by (with_reducible repeat (first | apply Kd.R_alloc | apply Kd.R_drewN | apply Kd.R_drew)); exact HO104.out)) k_ hk)); (case aO => exact (by (with_reducible repeat (first | apply Kd.R_alloc | apply Kd.R_drewN | apply Kd.R_drew)); exact Kd.R_mono HO_5.out (fun _ hk => hk.2))); (case aS => exact (below_size (by repeat (first | (with_reducible first | exact HB.out | apply below_alloc | apply pw_below_drewN | apply below_drew1) | exact HB.out)))); (case aL => have := LMc16.out; omega); intro v106 w18 ho hb hg hat; rw [← Ny105.out] at ho; have n0_ := Aside0.mk (Kd.R_after (ok := (fun _ => True)) (by (with_reducible repeat (first | apply Kd.R_alloc | apply Kd.R_drewN | apply Kd.R_drew)); exact HO104.out) hg hat); have n1_ := Aside0.mk (hb); have n2_ := Aside0.mk (ho); clear HO104; clear HB; clear HO_5; have HO104 := n0_; have HB := n1_; have HO107 := n2_; clear n0_ n1_ n2_; clear ho hb hg hat))
                        go_roundg kj7
                        case measure => have := HJ2.out; have := HK2.out; have := HJ7.out; omega
                        case rel => exact ⟨(y105), (wrap64 (x6_2 + t102)), (by first | rfl | (simp; done) | (simp [*]; done) | (simp [bne_nil_bytes]; done)), H', ⟨by have := HJ2.out; have := HK2.out; have := HJ7.out; omega⟩, ⟨by (with_reducible repeat (first | apply Kd.R_alloc | apply Kd.R_drewN | apply Kd.R_drew)); exact Kd.R_mono HO107.out (fun _ hk => trivial)⟩, ⟨by repeat (first | (with_reducible first | exact HB.out | apply below_alloc | apply pw_below_drewN | apply below_drew1) | exact HB.out)⟩⟩
                      · rw [if_neg c16] at H
                        exact absurd H (by simp)
                  · replace c12 := Bool.eq_false_iff.mpr c12
                    subst c12
                    have H1 : (if x6_2 ≥ (a0.size : Int) then (some ((⟨#[]⟩ : ByteArray), x6_2, 10)) else (if (wrap64 (x6_2 + 1)) < (a0.size : Int) then (some ((⟨#[]⟩ : ByteArray), wrap64 (x6_2 + 1), 10)) else (if (x5_2.length : Int) > 65536 then (some ((⟨#[]⟩ : ByteArray), 0, 3)) else ((cognateref01_quote.f kj7 (strOfNums x5_2)).bind fun t108 => (if t108.toList = a0.toList then (some (strOfNums x5_2, 0, 0)) else (some ((⟨#[]⟩ : ByteArray), 0, 10))))))) = some (r1, r2, r3) := by rw [if_neg (show ¬ (false = true) by decide)] at H; exact H
                    clear H
                    have H := H1
                    clear H1
                    by_cases c20 : x6_2 ≥ (a0.size : Int)
                    · rw [if_pos c20] at H
                      have c20b0 : decide ((a0.size : Int) ≤ x6_2) = true := decide_eq_true c20
                      clear c20
                      simp only [Option.some.injEq, Prod.mk.injEq] at H
                      obtain ⟨rfl, rfl, rfl⟩ := H
                      go_wp2
                      go_ret3
                      exact ⟨by first | rfl | (simp [errW_none, errW_some] <;> rfl) | (simp [*, errW_none, errW_some] <;> rfl) | (simp [bne_nil_bytes]; done), by repeat (first | (with_reducible first | exact HB.out | apply below_alloc | apply pw_below_drewN | apply below_drew1) | exact HB.out)⟩
                    · rw [if_neg c20] at H
                      have c20b0 : decide ((a0.size : Int) ≤ x6_2) = false := decide_eq_false c20
                      clear c20
                      by_cases c21 : (wrap64 (x6_2 + 1)) < (a0.size : Int)
                      · rw [if_pos c21] at H
                        have c21b0 : decide ((wrap64 (x6_2 + 1)) < (a0.size : Int)) = true := decide_eq_true c21
                        clear c21
                        simp only [Option.some.injEq, Prod.mk.injEq] at H
                        obtain ⟨rfl, rfl, rfl⟩ := H
                        go_wp2
                        go_ret3
                        exact ⟨by first | rfl | (simp [errW_none, errW_some] <;> rfl) | (simp [*, errW_none, errW_some] <;> rfl) | (simp [bne_nil_bytes]; done), by repeat (first | (with_reducible first | exact HB.out | apply below_alloc | apply pw_below_drewN | apply below_drew1) | exact HB.out)⟩
                      · rw [if_neg c21] at H
                        have c21b0 : decide ((wrap64 (x6_2 + 1)) < (a0.size : Int)) = false := decide_eq_false c21
                        clear c21
                        by_cases c22 : (x5_2.length : Int) > 65536
                        · rw [if_pos c22] at H
                          have c22b0 : decide (65536 < (x5_2.length : Int)) = true := decide_eq_true c22
                          have c22b1 : decide (65536 < x5_2.length) = true := decide_eq_true (by omega)
                          clear c22
                          simp only [Option.some.injEq, Prod.mk.injEq] at H
                          obtain ⟨rfl, rfl, rfl⟩ := H
                          obtain ⟨Ao23, co23, eo23⟩ := Kd.R_slice HO_5.out
                          subst eo23
                          go_wp2
                          go_ret3
                          exact ⟨by first | rfl | (simp [errW_none, errW_some] <;> rfl) | (simp [*, errW_none, errW_some] <;> rfl) | (simp [bne_nil_bytes]; done), by repeat (first | (with_reducible first | exact HB.out | apply below_alloc | apply pw_below_drewN | apply below_drew1) | exact HB.out)⟩
                        · rw [if_neg c22] at H
                          have c22b0 : decide (65536 < (x5_2.length : Int)) = false := decide_eq_false c22
                          have c22b1 : decide (65536 < x5_2.length) = false := decide_eq_false (by omega)
                          clear c22
                          replace H := Option.bind_eq_some_iff.mp H
                          obtain ⟨t108, A240, H⟩ := H
                          replace H : (if t108.toList = a0.toList then (some (strOfNums x5_2, 0, 0)) else (some ((⟨#[]⟩ : ByteArray), 0, 10))) = some (r1, r2, r3) := H
                          have A24 := Aside0.mk A240
                          clear A240
                          by_cases c25 : t108.toList = a0.toList
                          · rw [if_pos c25] at H
                            have c25b0 : (t108.toList == a0.toList) = true := beq_iff_eq.mpr c25
                            have c25b1 : (t108.toList != a0.toList) = false := bne_eq_false_iff_eq.mpr c25
                            clear c25
                            simp only [Option.some.injEq, Prod.mk.injEq] at H
                            obtain ⟨rfl, rfl, rfl⟩ := H
                            obtain ⟨Ao26, co26, eo26⟩ := Kd.R_slice HO_5.out
                            subst eo26
                            have hcv27 := own_string (P := Tryd.prog) Tryd.underlying54 Tryd.underlying5 Tryd.underlying9 (Kd.own_of_R HO_5.out)
                            go_wp2_with (first | ((with_reducible refine gate_callee (f := 44) rfl ?_); refine goesL_ (some 61) rfl rfl Tryd.func44 (by kernel_rfl) rfl #[.string (strOfNums x5_2)] rfl (by (try simp only [List.map_toArray, List.map_cons, List.map_nil]); first | done | rfl | (simp only [List.length_drop, List.length_take]; rfl)) ?_; (with_reducible refine (cognateref01_quote.calls kj7 (strOfNums x5_2) t108 _ A24.out).mono ?_); rintro e w28 ⟨rfl, hb⟩; refine ⟨_, rfl, ?_⟩; have n0_ := Aside0.mk (Kd.R_below (by (with_reducible repeat (first | apply Kd.R_alloc | apply Kd.R_drewN | apply Kd.R_drew)); exact HO_5.out) hb); have n1_ := Aside0.mk (below_step (by repeat (first | (with_reducible first | exact HB.out | apply below_alloc | apply pw_below_drewN | apply below_drew1) | exact HB.out)) hb); clear HO_5; clear HB; have HO_5 := n0_; have HB := n1_; clear n0_ n1_; (try clear hb); (try clear hb2); (try clear hk); (try clear hi); have hcv29 := own_string (P := Tryd.prog) Tryd.underlying54 Tryd.underlying5 Tryd.underlying9 (Kd.own_of_R HO_5.out)))
                            go_ret3
                            exact ⟨by first | rfl | (simp [errW_none, errW_some] <;> rfl) | (simp [*, errW_none, errW_some] <;> rfl) | (simp [bne_nil_bytes]; done), by repeat (first | (with_reducible first | exact HB.out | apply below_alloc | apply pw_below_drewN | apply below_drew1) | exact HB.out)⟩
                          · rw [if_neg c25] at H
                            have c25b0 : (t108.toList == a0.toList) = false := beq_eq_false_iff_ne.mpr c25
                            have c25b1 : (t108.toList != a0.toList) = true := bne_iff_ne.mpr c25
                            simp only [Option.some.injEq, Prod.mk.injEq] at H
                            obtain ⟨rfl, rfl, rfl⟩ := H
                            obtain ⟨Ao30, co30, eo30⟩ := Kd.R_slice HO_5.out
                            subst eo30
                            have hcv31 := own_string (P := Tryd.prog) Tryd.underlying54 Tryd.underlying5 Tryd.underlying9 (Kd.own_of_R HO_5.out)
                            go_wp2_with (first | ((with_reducible refine gate_callee (f := 44) rfl ?_); refine goesL_ (some 61) rfl rfl Tryd.func44 (by kernel_rfl) rfl #[.string (strOfNums x5_2)] rfl (by (try simp only [List.map_toArray, List.map_cons, List.map_nil]); first | done | rfl | (simp only [List.length_drop, List.length_take]; rfl)) ?_; (with_reducible refine (cognateref01_quote.calls kj7 (strOfNums x5_2) t108 _ A24.out).mono ?_); rintro e w32 ⟨rfl, hb⟩; refine ⟨_, rfl, ?_⟩; have n0_ := Aside0.mk (Kd.R_below (by (with_reducible repeat (first | apply Kd.R_alloc | apply Kd.R_drewN | apply Kd.R_drew)); exact HO_5.out) hb); have n1_ := Aside0.mk (below_step (by repeat (first | (with_reducible first | exact HB.out | apply below_alloc | apply pw_below_drewN | apply below_drew1) | exact HB.out)) hb); clear HO_5; clear HB; have HO_5 := n0_; have HB := n1_; clear n0_ n1_; (try clear hb); (try clear hb2); (try clear hk); (try clear hi)))
                            go_ret3
                            exact ⟨by first | rfl | (simp [errW_none, errW_some] <;> rfl) | (simp [*, errW_none, errW_some] <;> rfl) | (simp [bne_nil_bytes]; done), by repeat (first | (with_reducible first | exact HB.out | apply below_alloc | apply pw_below_drewN | apply below_drew1) | exact HB.out)⟩

end Go.Proofs.YtglaagoblcpggaaDoor.R
end

section
namespace Go.Proofs.YtglaagoblcpggaaDoor.R
open Go.RowKit Go.Proofs.YtglaagoblcpggaaDoorW.PrintWords Go.Proofs.YtglaagoblcpggaaDoorW.PrintLast Go.Proofs.YtglaagoblcpggaaDoorW.PrintMore
attribute [local go_sem] max2_int min2_int max_two min_two max_three min_three max_four min_four   -- for this text's walks alone
set_option linter.unusedVariables false
set_option linter.unusedSimpArgs false

/-! ### cognateref01_Text: function 31 -/
def cognateref01_Text.l0 : Nat → List Int → List Int → Int → Option (ByteArray)
  | 0, _, _, _ => none
  | k + 1, x0, x3, x4 => if x4 < (x0.length : Int) then (if 0 ≤ x4 then ((cognateref01_one.f k (rd x0 x4)).bind fun t102 => (if x3.length + t102.length < 140737488355328 then (cognateref01_Text.l0 k x0 (x3 ++ t102) (wrap64 (x4 + 1))) else (none))) else (none)) else (some (strOfNums x3))
def cognateref01_Text.f (k : Nat) (l0 : List Int) : Option (ByteArray) := cognateref01_Text.l0 k l0 ([] : List Int) 0
theorem cognateref01_Text.mono_l : ∀ k, (∀ y0 y1 y2, LeO (cognateref01_Text.l0 k y0 y1 y2) (cognateref01_Text.l0 (k + 1) y0 y1 y2))
  | 0 => fun _ _ _ r h => by simp [cognateref01_Text.l0] at h
  | k + 1 => by
    have ih0 := cognateref01_Text.mono_l k
    · intro y0 y1 y2
      unfold cognateref01_Text.l0
      repeat' first
      | (with_reducible exact ih0 _ _ _)
      | (with_reducible exact cognateref01_one.mono _ _)
      | (with_reducible exact LeO.refl _)
      | (with_reducible exact LeO.none _)
      | (with_reducible refine LeO.ite ?_ ?_)
      | (with_reducible refine LeO.bind ?_ (fun _ => ?_))
      | exact ih0 _ _ _
      | exact cognateref01_one.mono _ _
      | exact LeO.none _
      | refine LeO.ite ?_ ?_
      | refine LeO.bind ?_ (fun _ => ?_)
theorem cognateref01_Text.mono : ∀ a0 k, LeO (cognateref01_Text.f k a0) (cognateref01_Text.f (k + 1) a0) := by
  intro a0 k
  have ih0 := cognateref01_Text.mono_l k
  unfold cognateref01_Text.f
  repeat' first
      | (with_reducible exact ih0 _ _ _)
      | (with_reducible exact cognateref01_one.mono _ _)
      | (with_reducible exact LeO.refl _)
      | (with_reducible exact LeO.none _)
      | (with_reducible refine LeO.ite ?_ ?_)
      | (with_reducible refine LeO.bind ?_ (fun _ => ?_))
      | exact ih0 _ _ _
      | exact cognateref01_one.mono _ _
      | exact LeO.none _
      | refine LeO.ite ?_ ?_
      | refine LeO.bind ?_ (fun _ => ?_)
set_option maxHeartbeats 8000000 in
set_option maxRecDepth 100000 in
theorem cognateref01_Text.calls (k : Nat) (A0 : Option Addr) (c0 : Nat) (l0 : List Int) (r : ByteArray) (w : World) (hr0 : Kd.C (Kd.int .i32) w A0 l0.length l0) (hc0 : l0.length ≤ c0) (h : cognateref01_Text.f k l0 = some r) :
    Calls Tryd.prog 31 #[.slice A0 l0.length c0] w fun e w' => e = .returned (.string r) ∧ Below w.heap.size w w' := by
  have HR0 := Aside0.mk hr0
  have HC0 := Aside0.mk hc0
  clear hr0 hc0
  have HB := Aside0.mk (Below.refl w.heap.size w)
  have H : (cognateref01_Text.l0 k l0 ([] : List Int) 0) = some r := h
  clear h
  have H' := Aside0.mk H
  clear H
  go_enter Tryd.func31, Tryd.ntmps31
  go_wp2
  go_loopg [3, 4] k (fun kq v3 v4 w' => ∃ (x3_1 : List Int) (x4_1 : Int), v4 = .int .i64 x4_1 ∧ Aside0 (cognateref01_Text.l0 kq l0 x3_1 x4_1 = some r) ∧ Aside0 (kq ≤ k) ∧ Aside0 (Kd.R (Kd.int .u8) 5 w' w.heap.size (fun _ => True) v3 x3_1) ∧ Aside0 (Below w.heap.size w w'))
  case atStart => exact ⟨(([] : List Int)), (0), (by first | rfl | (simp; done) | (simp [*]; done)), H', ⟨Nat.le_refl _⟩, ⟨by first | exact Kd.R_nil _ _ _ _ _ | exact Kd.N_nil _ _ _ _ _ | exact Kd.V_nil _ _ _ _ _ | exact Kd.Q_nil _ _ _ _ _ | exact Kd.S_nil _ _ _ _ _⟩, ⟨by repeat (first | (with_reducible first | exact HB.out | apply below_alloc | apply pw_below_drewN | apply below_drew1) | exact HB.out)⟩⟩
  case round =>
    clear H'
    obtain ⟨x3_1, x4_1, rfl, HA, HK1, HO_3, HB⟩ := hrel
    cases gk with
    | zero => exact absurd HA.out (by simp [cognateref01_Text.l0])
    | succ k1 =>
      have H := HA.out
      clear HA
      simp only [cognateref01_Text.l0] at H
      by_cases c2 : x4_1 < (l0.length : Int)
      · rw [if_pos c2] at H
        have c2b0 : decide (x4_1 < (l0.length : Int)) = true := decide_eq_true c2
        clear c2
        by_cases c3 : 0 ≤ x4_1
        · rw [if_pos c3] at H
          have c3b0 : decide (0 ≤ x4_1) = true := decide_eq_true c3
          clear c3
          replace H := Option.bind_eq_some_iff.mp H
          obtain ⟨t102, A40, H⟩ := H
          replace H : (if x3_1.length + t102.length < 140737488355328 then (cognateref01_Text.l0 k1 l0 (x3_1 ++ t102) (wrap64 (x4_1 + 1))) else (none)) = some r := H
          have A4 := Aside0.mk A40
          clear A40
          by_cases c5 : x3_1.length + t102.length < 140737488355328
          · rw [if_pos c5] at H
            have LMc5 := Aside0.mk c5
            clear c5
            obtain ⟨y105, hy105⟩ : ∃ y_ : List Int, y_ = (x3_1 ++ t102) := ⟨_, rfl⟩
            replace H : (cognateref01_Text.l0 k1 l0 y105 (wrap64 (x4_1 + 1))) = some r := by first | (rw [hy105]; with_reducible exact H) | (have H2_ := (Option.bind_some _ _).symm.trans H; rw [hy105]; with_reducible exact H2_) | (have H2_ := (Option.bind_some _ _).symm.trans H; with_reducible exact H2_) | with_reducible exact H | (rw [hy105]; exact H) | exact H
            have Ny105 := Aside0.mk hy105
            clear hy105
            have H' := Aside0.mk H
            clear H
            have p101 : 0 ≤ (x4_1 : Int) := of_decide_eq_true (by first | (with_reducible assumption) | assumption)
            have q101 : x4_1 < (l0.length : Int) := of_decide_eq_true (by first | (with_reducible assumption) | assumption)
            obtain ⟨ad101, e101, hx101_0⟩ := Kd.at_int HR0.out x4_1 p101 q101
            cases e101
            replace hx101_0 := (HB.out.cell (World.block_lt_of_cell? w _ hx101_0)).trans hx101_0
            replace p101 := eq_true p101
            replace q101 := eq_true q101
            go_wp2_with (first | ((with_reducible refine gate_callee (f := 41) rfl ?_); refine goesL_ (some 16) rfl rfl Tryd.func41 (by kernel_rfl) rfl #[.int .i32 (rd l0 x4_1)] rfl (by (try simp only [List.map_toArray, List.map_cons, List.map_nil]); first | done | rfl | (simp only [List.length_drop, List.length_take]; rfl)) ?_; (with_reducible refine (cognateref01_one.calls k1 (rd l0 x4_1) t102 _ A4.out).mono ?_); rintro e w6 ⟨v103, rfl, ho0, hb⟩; refine ⟨_, rfl, ?_⟩; have n0_ := Aside0.mk (Kd.R_elder' (by (with_reducible repeat (first | apply Kd.R_alloc | apply Kd.R_drewN | apply Kd.R_drew)); exact HO_3.out) (Kd.R_base ho0) hb); have n1_ := Aside0.mk (Kd.R_lower (Kd.R_new' ho0 (Kd.R_lt (by (with_reducible repeat (first | apply Kd.R_alloc | apply Kd.R_drewN | apply Kd.R_drew)); exact HO_3.out))) (below_size (by repeat (first | (with_reducible first | exact HB.out | apply below_alloc | apply pw_below_drewN | apply below_drew1) | exact HB.out)))); have n2_ := Aside0.mk (below_step (by repeat (first | (with_reducible first | exact HB.out | apply below_alloc | apply pw_below_drewN | apply below_drew1) | exact HB.out)) hb); clear HO_3; clear HB; have HO_3 := n0_; have HO104 := n1_; have HB := n2_; clear n0_ n1_ n2_; (try clear hb); (try clear hb2); (try clear hk); (try clear hi); (try clear ho0); obtain ⟨Ao8, co8, eo8⟩ := Kd.R_slice HO104.out; subst eo8) | ((with_reducible refine gate_builtin (b := .append) (xs := #[.tmp 17, .tmp 18]) rfl ?_); at_builtin; refine Kd.R_append_rows (Kd.int .u8) (w0 := w) w.heap.size rfl (.tmp 17) (.tmp 18) 54 5 (.int .u8 0) 1 rfl Tryd.underlying54 info5 rfl (by decide) (by omega) u3 x3_1 t102 _ _ _ (fun k_ => some k_ ≠ (.slice Ao8 t102.length co8 : Value).ownBlock) (fun _ => False) rfl rfl ?aO ?aR (fun _ _ h => h) (fun _ h => h.elim) ?aF ?aB ?aS ?aL ?_; (case aR => repeat (first | exact (Kd.R_reads' HO104.out).2.2 | (with_reducible refine Kd.C_alloc ?_ _) | (with_reducible refine Kd.C_drewN ?_ _) | (with_reducible refine Kd.C_drew ?_))); (case aB => exact (by repeat (first | (with_reducible first | exact HB.out | apply below_alloc | apply pw_below_drewN | apply below_drew1) | exact HB.out))); (case aF => exact (fun k_ hk => Kd.fresh' (Kd.R_lt (by (with_reducible repeat (first | apply Kd.R_alloc | apply Kd.R_drewN | apply Kd.R_drew)); exact HO104.out)) k_ hk)); (case aO => exact (by (with_reducible repeat (first | apply Kd.R_alloc | apply Kd.R_drewN | apply Kd.R_drew)); exact Kd.R_mono HO_3.out (fun _ hk => hk.2))); (case aS => exact (below_size (by repeat (first | (with_reducible first | exact HB.out | apply below_alloc | apply pw_below_drewN | apply below_drew1) | exact HB.out)))); (case aL => have := LMc5.out; omega); intro v106 w7 ho hb hg hat; rw [← Ny105.out] at ho; have n0_ := Aside0.mk (Kd.R_after (ok := (fun _ => True)) (by (with_reducible repeat (first | apply Kd.R_alloc | apply Kd.R_drewN | apply Kd.R_drew)); exact HO104.out) hg hat); have n1_ := Aside0.mk (hb); have n2_ := Aside0.mk (ho); clear HO104; clear HB; clear HO_3; have HO104 := n0_; have HB := n1_; have HO107 := n2_; clear n0_ n1_ n2_; clear ho hb hg hat))
            go_roundg k1
            case measure => have := HK1.out; omega
            case rel => exact ⟨(y105), (wrap64 (x4_1 + 1)), (by first | rfl | (simp; done) | (simp [*]; done)), H', ⟨by have := HK1.out; omega⟩, ⟨by (with_reducible repeat (first | apply Kd.R_alloc | apply Kd.R_drewN | apply Kd.R_drew)); exact Kd.R_mono HO107.out (fun _ hk => trivial)⟩, ⟨by repeat (first | (with_reducible first | exact HB.out | apply below_alloc | apply pw_below_drewN | apply below_drew1) | exact HB.out)⟩⟩
          · rw [if_neg c5] at H
            exact absurd H (by simp)
        · rw [if_neg c3] at H
          exact absurd H (by simp)
      · rw [if_neg c2] at H
        have c2b0 : decide (x4_1 < (l0.length : Int)) = false := decide_eq_false c2
        clear c2
        obtain rfl := Option.some.inj H
        have hcv9 := own_string (P := Tryd.prog) Tryd.underlying54 Tryd.underlying5 Tryd.underlying9 (Kd.own_of_R HO_3.out)
        go_wp2
        go_ret
        exact ⟨by first | rfl | (simp [errW_none, errW_some] <;> rfl) | (simp [*, errW_none, errW_some] <;> rfl), by repeat (first | (with_reducible first | exact HB.out | apply below_alloc | apply pw_below_drewN | apply below_drew1) | exact HB.out)⟩

end Go.Proofs.YtglaagoblcpggaaDoor.R
end

section
set_option linter.unusedVariables false
set_option linter.unusedSimpArgs false
namespace Go.Proofs.YtglaagoblcpggaaDoor.R
open Go.RowKit Go.Proofs.YtglaagoblcpggaaDoorW.PrintWords


/-- WHAT runes.thing COMPUTES, of a text that is not empty: what its beginning stands for, and how many bytes that takes (0: nothing). -/
def thingU (s : ByteArray) (h : Nat) : ByteArray × Nat :=
  match (if (s.extract 2 (2 + h)).size = 0 then none else hexM 4294967295 0 (s.extract 2 (2 + h)).data.toList) with
  | none => (⟨#[]⟩, 0)
  | some n => if 1114111 < n ∨ Lib.validRune (n : Int) = false ∨ (32 ≤ n ∧ n ≤ 126) ∨ ((s.get! 2).toNat = 48 ∧ 1 < h) ∨ Lib.hasPrefix (s.extract (2 + h) s.size).data.toList [59] = false then (⟨#[]⟩, 0) else (Utf8.encode (n : Int), h + 3)
def thingP (s : ByteArray) : ByteArray × Nat :=
  if (s.get! 0).toNat ≠ 92 then (if (s.get! 0).toNat < 32 ∨ 126 < (s.get! 0).toNat then (⟨#[]⟩, 0) else (s.extract 0 1, 1))
  else if s.size < 2 then (⟨#[]⟩, 0)
  else if (s.get! 1).toNat = 34 ∨ (s.get! 1).toNat = 92 then (s.extract 1 2, 2)
  else if (s.get! 1).toNat = 120 then (if sixteens s < 2 ∨ (s.get! 2).toNat < 56 then (⟨#[]⟩, 0) else (⟨#[UInt8.ofNat ((hexM 255 0 (s.extract 2 4).data.toList).getD 0)]⟩, 4))
  else if (s.get! 1).toNat = 117 then thingU s (sixteens s)
  else (⟨#[]⟩, 0)
theorem hexM_le (M : Nat) : ∀ (l : List UInt8) (acc n : Nat), acc ≤ M → hexM M acc l = some n → n ≤ M
  | [], acc, n, h, e => by
    have := Option.some.inj e
    omega
  | c :: l, acc, n, h, e => by
    unfold hexM at e
    by_cases g : M < acc * 16 + hexv c
    · rw [if_pos g] at e; cases e
    · rw [if_neg g] at e
      exact hexM_le M l _ n (by omega) e
theorem hexv_lt (c : UInt8) (h : isHexB c = true) : hexv c < 16 := by
  simp only [isHexB, Bool.or_eq_true, Bool.and_eq_true, decide_eq_true_eq] at h
  unfold hexv
  split <;> omega
theorem thing_any (s : ByteArray) (hs : s.size ≤ 1048600) (h1 : 1 ≤ s.size) (w : World) (hE : TabE w) :
    Calls Tryd.prog 46 #[.string s] w fun e w' => e = .returned (.tuple #[.string (thingP s).1, .int .i64 ((thingP s).2 : Int)]) ∧ Below w.heap.size w w' := by
  have x0 := fun W => hix_at s 0 (by omega) W
  by_cases hb : (s.get! 0).toNat = 92
  case neg =>
    have e : thingP s = if (s.get! 0).toNat < 32 ∨ 126 < (s.get! 0).toNat then (⟨#[]⟩, 0) else (s.extract 0 1, 1) := by unfold thingP; rw [if_pos hb]
    rw [e]
    by_cases c1 : (s.get! 0).toNat < 32
    · rw [if_pos (.inl c1)]; exact thing_low s hs h1 _ x0 hb c1 w
    · by_cases c2 : 126 < (s.get! 0).toNat
      · rw [if_pos (.inr c2)]; exact thing_high s hs h1 _ x0 hb c2 w
      · rw [if_neg (by omega)]; exact thing_plain s hs h1 _ x0 hb (by omega) (by omega) w
  · rw [hb] at x0
    unfold thingP
    rw [if_neg (by simpa using hb)]
    by_cases h2 : s.size < 2
    · rw [if_pos h2]; exact thing_short s hs (by omega) x0 w
    · rw [if_neg h2]
      have x1 := fun W => hix_at s 1 (by omega) W
      have htl := trim_len s (by omega)
      have hT := trim_calls s
      generalize (⟨(Lib.trimLeftS (s.extract 2 s.size).data.toList hexSet.data.toList).toArray⟩ : ByteArray) = tl at htl hT
      by_cases c1 : (s.get! 1).toNat = 34
      · rw [if_pos (.inl c1)]; rw [c1] at x1; exact thing_34 s hs (by omega) x0 x1 tl _ htl hT w
      · by_cases c2 : (s.get! 1).toNat = 92
        · rw [if_pos (.inr c2)]; rw [c2] at x1; exact thing_92 s hs (by omega) x0 x1 tl _ htl hT w
        · rw [if_neg (by omega)]
          have six := six_hex s
          by_cases c3 : (s.get! 1).toNat = 120
          · rw [if_pos c3]
            rw [c3] at x1
            by_cases hh : sixteens s < 2
            · rw [if_pos (.inl hh)]; exact thing_x_few s hs (by omega) x0 x1 tl _ htl hT hh w
            · have x2 := fun W => hix_at s 2 (by omega) W
              by_cases hd : (s.get! 2).toNat < 56
              · rw [if_pos (.inr hd)]; exact thing_x_low s hs (by omega) x0 x1 tl _ htl hT (by omega) _ x2 hd w
              · rw [if_neg (by omega)]
                have e4 : (s.extract 2 4).size = 2 := by rw [ByteArray.size_extract]; omega
                have hx4 : ∀ c ∈ (s.extract 2 4).data.toList, isHexB c = true := by
                  intro c hc
                  refine six c ?_
                  rw [ByteArray.data_extract, Array.toList_extract, List.extract_eq_take_drop] at hc ⊢
                  exact List.mem_of_mem_take (i := 2) (by rw [List.take_take, show min 2 (2 + sixteens s - 2) = 4 - 2 by omega]; exact hc)
                obtain ⟨n, hn⟩ : ∃ n, hexM 255 0 (s.extract 2 4).data.toList = some n := by
                  have hl : (s.extract 2 4).data.toList.length = 2 := by rw [Array.length_toList]; exact e4
                  match hm : (s.extract 2 4).data.toList, hl with
                  | [x, y], _ =>
                    rw [hm] at hx4
                    have a := hexv_lt x (hx4 x (by simp))
                    have b := hexv_lt y (hx4 y (by simp))
                    refine ⟨(0 * 16 + hexv x) * 16 + hexv y, ?_⟩
                    rw [hexM, if_neg (by omega), hexM, if_neg (by omega), hexM]
                have hnl := hexM_le 255 _ 0 n (by omega) hn
                rw [hn]
                refine thing_x_ok s hs (by omega) x0 x1 tl _ htl hT (by omega) _ x2 (by omega) n (by omega) (fun W hE => ?_) w hE
                have := ParseUint_hex 8 255 (.inr ⟨rfl, rfl⟩) (s.extract 2 4) (by omega) hx4 W hE
                rw [if_neg (by omega), hn] at this
                exact this
          · rw [if_neg c3]
            by_cases c4 : (s.get! 1).toNat = 117
            case neg =>
              rw [if_neg c4]
              exact thing_other s hs (by omega) x0 _ x1 c1 c2 c3 c4 tl _ htl hT w
            · rw [if_pos c4]
              rw [c4] at x1
              have hP := fun W hE => ParseUint_hex 32 4294967295 (.inl ⟨rfl, rfl⟩) (s.extract 2 (2 + sixteens s)) (by rw [ByteArray.size_extract]; omega) six W hE
              unfold thingU
              by_cases hm : ∃ n, (if (s.extract 2 (2 + sixteens s)).size = 0 then none else hexM 4294967295 0 (s.extract 2 (2 + sixteens s)).data.toList) = some n
              case neg =>
                have hm' : (if (s.extract 2 (2 + sixteens s)).size = 0 then none else hexM 4294967295 0 (s.extract 2 (2 + sixteens s)).data.toList) = none := by
                  cases h : (if (s.extract 2 (2 + sixteens s)).size = 0 then none else hexM 4294967295 0 (s.extract 2 (2 + sixteens s)).data.toList) with
                  | none => rfl
                  | some n => exact absurd ⟨n, h⟩ hm
                rw [hm'] at hP ⊢
                exact thing_u_none s hs (by omega) x0 x1 tl _ htl hT (fun W hE => (hP W hE)) w hE
              · obtain ⟨n, hm⟩ := hm
                rw [hm] at hP ⊢
                have hn : n ≤ 4294967295 := by
                  by_cases h0 : (s.extract 2 (2 + sixteens s)).size = 0
                  · rw [if_pos h0] at hm; cases hm
                  · rw [if_neg h0] at hm; exact hexM_le _ _ 0 n (by omega) hm
                have h0 : 1 ≤ sixteens s := by
                  rcases Nat.eq_zero_or_pos (sixteens s) with h | h
                  · rw [if_pos (by rw [ByteArray.size_extract]; omega)] at hm; cases hm
                  · exact h
                have x2 := fun W => hix_at s 2 (by omega) W
                simp only
                by_cases b1 : 1114111 < n
                · rw [if_pos (.inl b1)]; exact thing_u_big s hs (by omega) x0 x1 tl _ htl hT n hn hP b1 w hE
                · by_cases b2 : Lib.validRune (n : Int) = false
                  · rw [if_pos (.inr (.inl b2))]; exact thing_u_surr s hs (by omega) x0 x1 tl _ htl hT n hn hP (by omega) b2 w hE
                  · have b2' : Lib.validRune (n : Int) = true := by simpa using b2
                    by_cases b3 : 32 ≤ n ∧ n ≤ 126
                    · rw [if_pos (.inr (.inr (.inl b3)))]; exact thing_u_ascii s hs (by omega) x0 x1 tl _ htl hT n hn hP (by omega) b2' b3.1 b3.2 w hE
                    · by_cases b4 : (s.get! 2).toNat = 48 ∧ 1 < sixteens s
                      · rw [if_pos (.inr (.inr (.inr (.inl b4))))]; exact thing_u_zero s hs (by omega) x0 x1 tl _ htl hT n hn hP (by omega) b2' (by omega) _ x2 b4.1 b4.2 w hE
                      · by_cases b5 : Lib.hasPrefix (s.extract (2 + sixteens s) s.size).data.toList [59] = false
                        · rw [if_pos (.inr (.inr (.inr (.inr b5))))]; exact thing_u_end s hs (by omega) x0 x1 tl _ htl hT n hn hP (by omega) b2' (by omega) _ x2 (by omega) _ rfl b5 w hE
                        · rw [if_neg (fun h => h.elim b1 (fun h => h.elim b2 (fun h => h.elim b3 (fun h => h.elim b4 b5))))]
                          have key := (thing_u_ok s hs (by omega) x0 x1 tl _ htl hT n hn hP (by omega) b2' (by omega) _ x2 (by omega) _ rfl (Eq.mp (Bool.not_eq_false _) b5) w hE)
                          generalize Utf8.encode (n : Int) = en at key ⊢
                          refine key.mono ?_
                          rintro e w' ⟨rfl, hb⟩
                          refine ⟨?_, hb⟩
                          rw [Int.natCast_add]
                          rfl
end Go.Proofs.YtglaagoblcpggaaDoor.R
end

section
set_option linter.unusedVariables false
set_option linter.unusedSimpArgs false
namespace Go.Proofs.YtglaagoblcpggaaDoor.R
open Go.RowKit Go.Proofs.YtglaagoblcpggaaDoorW.PrintWords

theorem extract_le (s : ByteArray) (a b : Nat) : (s.extract a b).size ≤ b - a := by rw [ByteArray.size_extract]; omega
theorem sixteens_le (s : ByteArray) : sixteens s ≤ s.size := by
  unfold sixteens
  have h1 : ((s.data.toList.drop 2).takeWhile isHexB).length ≤ (s.data.toList.drop 2).length := (List.takeWhile_prefix isHexB).length_le
  have h2 : s.data.toList.length = s.size := Array.length_toList
  rw [List.length_drop] at h1
  omega
theorem thingP_size (s : ByteArray) : (thingP s).1.size ≤ 4 ∧ (thingP s).2 ≤ s.size + 4 := by
  have h0 : (⟨#[]⟩ : ByteArray).size ≤ 4 ∧ 0 ≤ s.size + 4 := ⟨Nat.zero_le _, Nat.zero_le _⟩
  have h6 := sixteens_le s
  unfold thingP thingU
  have henc := encode_size_le
  revert henc
  generalize Utf8.encode = enc
  intro henc
  repeat' split
  all_goals first
    | exact h0
    | exact ⟨by have := extract_le s 0 1; simp only; omega, by simp only; omega⟩
    | exact ⟨by have := extract_le s 1 2; simp only; omega, by simp only; omega⟩
    | exact ⟨(show 1 ≤ 4 by omega), by simp only; omega⟩
    | exact ⟨henc _, by simp only; omega⟩

def plainLoop : Nat → ByteArray → Nat → List UInt8 → Bool × Nat × List UInt8
  | 0, _, i, acc => (true, i, acc)
  | f + 1, s, i, acc => if i < s.size ∧ (s.get! i).toNat ≠ 34 then
      (if (thingP (s.extract i s.size)).2 = 0 then (true, i, []) else plainLoop f s (i + (thingP (s.extract i s.size)).2) (acc ++ (thingP (s.extract i s.size)).1.data.toList))
    else (false, i, acc)
/-- What runes.Plain answers of what its loop left. -/
def plainEnd (s : ByteArray) (r : Bool × Nat × List UInt8) : ByteArray × Int × Int :=
  if r.1 = true then (⟨#[]⟩, r.2.1, 10)
  else if s.size ≤ r.2.1 then (⟨#[]⟩, r.2.1, 10)
  else if r.2.1 + 1 < s.size then (⟨#[]⟩, ((r.2.1 + 1 : Nat) : Int), 10)
  else if 65536 < r.2.2.length then (⟨#[]⟩, 0, 3)
  else if runes_quote.f ⟨r.2.2.toArray⟩ = some s then (⟨r.2.2.toArray⟩, 0, 0) else (⟨#[]⟩, 0, 10)
def runes_Plain.f (a0 : ByteArray) : Option (ByteArray × Int × Int) :=
  if 1048576 < a0.size then some (⟨#[]⟩, 0, 3)
  else if Lib.hasPrefix a0.data.toList [34] = false then some (⟨#[]⟩, 0, 10)
  else some (plainEnd a0 (plainLoop (a0.size + 1) a0 1 []))

set_option maxHeartbeats 8000000 in
set_option maxRecDepth 100000 in
theorem plain_big (s : ByteArray) (h : 1048576 < s.size) (w : World) : Calls Tryd.prog 29 #[.string s] w fun e w' => e = .returned (.tuple #[.string ⟨#[]⟩, .int .i64 0, .int .i64 3]) ∧ Below w.heap.size w w' := by
  go_enter Tryd.func29, Tryd.ntmps29
  go_wp2
  go_ret3
  exact ⟨rfl, Below.refl _ _⟩
set_option maxHeartbeats 8000000 in
set_option maxRecDepth 100000 in
theorem plain_bare (s : ByteArray) (h : s.size ≤ 1048576) (hp : Lib.hasPrefix s.data.toList [34] = false) (w : World) : Calls Tryd.prog 29 #[.string s] w fun e w' => e = .returned (.tuple #[.string ⟨#[]⟩, .int .i64 0, .int .i64 10]) ∧ Below w.heap.size w w' := by
  have HP := Aside0.mk hp
  clear hp
  go_enter Tryd.func29, Tryd.ntmps29
  go_wp2_with (go_at_call 45; refine (Tryd.strings_HasPrefix _ _ _).mono ?_; rw [show (⟨#[34]⟩ : ByteArray).data.toList = [34] from rfl, HP.out]; rintro e w6 ⟨rfl, rfl⟩)
  go_ret3
  exact ⟨rfl, Below.refl _ _⟩

/-- What holds ahead of each round. -/
structure PlI (s : ByteArray) (b : Nat) (w : World) (i f : Nat) (acc : List UInt8) (wr : World) : Prop where
  bld : Lib.IsBuilderF 59 5 w.heap.size b (Lib.byteCells acc) wr
  bel : Below w.heap.size w wr
  len : acc.length ≤ 4 * i
  top : i ≤ 2 * s.size + 8
  one : 1 ≤ i
  fuel : s.size - i < f
  eq : plainLoop f s i acc = plainLoop (s.size + 1) s 1 []

set_option maxHeartbeats 16000000 in
set_option maxRecDepth 100000 in
theorem plain_main (s : ByteArray) (h : s.size ≤ 1048576) (hp : Lib.hasPrefix s.data.toList [34] = true) (w : World) (hTU : TabU w) (hTN : TabN w) (hTE : TabE w) :
    Calls Tryd.prog 29 #[.string s] w fun e w' => e = .returned (.tuple #[.string (plainEnd s (plainLoop (s.size + 1) s 1 [])).1, .int .i64 (plainEnd s (plainLoop (s.size + 1) s 1 [])).2.1, .int .i64 (plainEnd s (plainLoop (s.size + 1) s 1 [])).2.2]) ∧ Below w.heap.size w w' := by
  have HP := Aside0.mk hp
  have HU := Aside0.mk hTU
  have HN := Aside0.mk hTN
  have HE := Aside0.mk hTE
  clear hp hTU hTN hTE
  go_enter Tryd.func29, Tryd.ntmps29
  go_wp2_with (first | (go_at_call 45; refine (Tryd.strings_HasPrefix _ _ _).mono ?_; rw [show (⟨#[34]⟩ : ByteArray).data.toList = [34] from rfl, HP.out]; rintro e w6 ⟨rfl, hw6⟩; have hw7 := hw6.symm; clear hw6; subst hw7) | ((with_reducible refine gate_dst (N := 5) rfl ?_); refine box_event ?hg (N := 5) ?hd (cs := #[.pointer none, .slice none 0 0]) (t := 59) ?hr ?_; (case hd => rfl); (case hg => rfl); (case hr => first | (go_simp; done) | (go_simp; rfl)); intro b hb w6 hbox6 hb6; have HGB := Aside0.mk hb; have HBX := Aside0.mk hbox6; have HB6 := Aside0.mk hb6; clear hb hbox6 hb6))
  go_loopw [6] (fun v6 wr => ∃ (i f : Nat) (acc : List UInt8), v6 = .int .i64 i ∧ Aside0 (PlI s b w i f acc wr)) (fun v6 wr => s.size - (intOf v6).toNat)
  case atStart => exact ⟨1, s.size + 1, [], rfl, ⟨⟨.inl ⟨by rw [HGB.out]; exact Nat.le_refl _, _, HBX.out, World.ownsRowF_nil _ _ _ _, by simp [Value.ownBlock]⟩, HB6.out, by simp, by omega, by omega, by omega, rfl⟩⟩⟩
  case round =>
    obtain ⟨i, f, acc, rfl, HI⟩ := hrel
    have hi1 := HI.out.one
    have hi2 := HI.out.top
    have hk : ∀ W, Below w.heap.size wr W → Below w.heap.size w W := fun W hb => HI.out.bel.trans hb
    have HK := Aside0.mk hk
    clear hk
    by_cases hi : i < s.size
    · have hix : ∀ W, (Instr.index 9 (.string s) (.int .i64 i)).run Tryd.prog W = _ := fun W => hix_at s i hi W
      have hc8 := get_lt s i
      by_cases hq : (s.get! i).toNat = 34
      · -- a quote: the end of the text that is read
        have hr : plainLoop (s.size + 1) s 1 [] = (false, i, acc) := by
          have h1 := HI.out.eq
          have h2 := HI.out.fuel
          obtain ⟨f, rfl⟩ : ∃ g, f = g + 1 := ⟨f - 1, by omega⟩
          rw [← h1, plainLoop, if_neg (by omega)]
        have HR := Aside0.mk hr
        rw [hq] at hix
        clear hr hq hc8
        by_cases hm : i + 1 < s.size
        · have he : plainEnd s (false, i, acc) = (⟨#[]⟩, ((i + 1 : Nat) : Int), 10) := by unfold plainEnd; rw [if_neg (by simp), if_neg (by simp only; omega), if_pos (by simpa using hm)]
          have HEQ := Aside0.mk he
          clear he
          go_wp2
          go_ret3
          exact ⟨by rw [HR.out, HEQ.out]; rfl, HI.out.bel⟩
        · have hll := Aside0.mk (show acc.length ≤ 100000000 by have := HI.out.len; omega)
          by_cases hl : 65536 < acc.length
          · have he : plainEnd s (false, i, acc) = (⟨#[]⟩, 0, 3) := by unfold plainEnd; rw [if_neg (by simp), if_neg (by simp only; omega), if_neg (by simpa using hm), if_pos (by simpa using hl)]
            have HEQ := Aside0.mk he
            clear he
            go_wp2_with (go_at_call 48; refine (Tryd.Builder_Len_f w.heap.size b _ _ HI.out.bld).mono ?_; rw [Lib.byteCells_length]; rintro e w7 ⟨rfl, rfl⟩)
            go_ret3
            exact ⟨by rw [HR.out, HEQ.out]; rfl, HI.out.bel⟩
          · have hqf : ∃ q, runes_quote.f ⟨acc.toArray⟩ = some q := by unfold runes_quote.f; rw [if_pos (by simp [ByteArray.size]; omega)]; exact ⟨_, rfl⟩
            obtain ⟨q, hqf⟩ := hqf
            have HQF := Aside0.mk hqf
            clear hqf
            by_cases hqs : q = s
            · have he : plainEnd s (false, i, acc) = (⟨acc.toArray⟩, 0, 0) := by unfold plainEnd; rw [if_neg (by simp), if_neg (by simp only; omega), if_neg (by simpa using hm), if_neg (by simpa using hl), if_pos (by rw [HQF.out, hqs])]
              have HEQ := Aside0.mk he
              clear he
              subst hqs
              go_wp2_with (first | (go_at_call 48; refine (Tryd.Builder_Len_f w.heap.size b _ _ HI.out.bld).mono ?_; rw [Lib.byteCells_length]; rintro e w7 ⟨rfl, rfl⟩) | (go_at_call 49; first | (refine (Tryd.Builder_String_any_k w.heap.size b acc _ HI.out.bld HI.out.bel.size).mono ?_; rintro e w8 ⟨rfl, h8, hb8, hk8⟩; have H8 := Aside0.mk h8; have HB8 := Aside0.mk (HI.out.bel.trans hb8); clear h8 hb8 hk8) | (refine (Tryd.Builder_String_any_k w.heap.size b acc _ (builder_below H8.out HB9.out) (HB9a.out.size)).mono ?_; rintro e w10 ⟨rfl, h10, hb10, hk10⟩; have HB10 := Aside0.mk (HB9a.out.trans hb10); clear h10 hb10 hk10)) | (go_at_call 43; refine (runes_quote.calls _ _ _ (HU.out.below HB8.out) (HN.out.below HB8.out) HQF.out).mono ?_; rintro e w9 ⟨rfl, hb9⟩; have HB9 := Aside0.mk hb9; have HB9a := Aside0.mk (HB8.out.trans (hb9.mono HB8.out.size)); clear hb9))
              go_ret3
              exact ⟨by rw [HR.out, HEQ.out]; rfl, HB10.out⟩
            · have he : plainEnd s (false, i, acc) = (⟨#[]⟩, 0, 10) := by unfold plainEnd; rw [if_neg (by simp), if_neg (by simp only; omega), if_neg (by simpa using hm), if_neg (by simpa using hl), if_neg (by rw [HQF.out]; simpa using hqs)]
              have HEQ := Aside0.mk he
              clear he
              have hne : (q.toList == s.toList) = false := beq_eq_false_iff_ne.2 fun e => hqs (by rw [Lib.toList_data, Lib.toList_data] at e; exact ByteArray.ext (Array.toList_inj.1 e))
              have hne2 : q.toList ≠ s.toList := by simpa using hne
              go_wp2_with (first | (go_at_call 48; refine (Tryd.Builder_Len_f w.heap.size b _ _ HI.out.bld).mono ?_; rw [Lib.byteCells_length]; rintro e w7 ⟨rfl, rfl⟩) | (go_at_call 49; refine (Tryd.Builder_String_any_k w.heap.size b acc _ HI.out.bld HI.out.bel.size).mono ?_; rintro e w8 ⟨rfl, h8, hb8, hk8⟩; have H8 := Aside0.mk h8; have HB8 := Aside0.mk (HI.out.bel.trans hb8); clear h8 hb8 hk8) | (go_at_call 43; refine (runes_quote.calls _ _ _ (HU.out.below HB8.out) (HN.out.below HB8.out) HQF.out).mono ?_; rintro e w9 ⟨rfl, hb9⟩; have HB9a := Aside0.mk (HB8.out.trans (hb9.mono HB8.out.size)); clear hb9))
              go_ret3
              exact ⟨by rw [HR.out, HEQ.out]; rfl, HB9a.out⟩
      · have hsz : (s.extract i s.size).size = s.size - i := by rw [ByteArray.size_extract]; omega
        have hqb : (((s.get! i).toNat : Int) == 34) = false := beq_eq_false_iff_ne.2 (by omega)
        have ht := fun W hE => thing_any (s.extract i s.size) (by omega) (by omega) W hE
        have hts := thingP_size (s.extract i s.size)
        have hstep : plainLoop f s i acc = (if (thingP (s.extract i s.size)).2 = 0 then (true, i, []) else plainLoop (f - 1) s (i + (thingP (s.extract i s.size)).2) (acc ++ (thingP (s.extract i s.size)).1.data.toList)) := by
          have h2 := HI.out.fuel
          obtain ⟨f, rfl⟩ : ∃ g, f = g + 1 := ⟨f - 1, by omega⟩
          rw [plainLoop, if_pos ⟨hi, hq⟩, Nat.add_sub_cancel]
        have HT := Aside0.mk ht
        have HTS := Aside0.mk hts
        have HSTEP := Aside0.mk (HI.out.eq.symm.trans hstep)
        clear ht hts hstep hq
        generalize (thingP (s.extract i s.size)).1 = txt at HT HTS HSTEP
        generalize (thingP (s.extract i s.size)).2 = n at HT HTS HSTEP
        by_cases hn : n = 0
        · subst hn
          have hr := Aside0.mk (show plainEnd s (plainLoop (s.size + 1) s 1 []) = (⟨#[]⟩, (i : Int), 10) by rw [HSTEP.out, if_pos rfl]; rfl)
          go_wp2_with (go_at_call 46; refine (HT.out _ (HE.out.below HI.out.bel)).mono ?_; rintro e w7 ⟨rfl, hb7⟩; have HB7 := Aside0.mk hb7; clear hb7)
          go_ret3
          exact ⟨by rw [hr.out]; rfl, HI.out.bel.trans (HB7.out.mono HI.out.bel.size)⟩
        · have hnb : ((n : Int) == 0) = false := beq_eq_false_iff_ne.2 (by omega)
          have hn1 : n ≤ s.size + 4 := by have := HTS.out; omega
          go_wp2_with (first | (go_at_call 46; refine (HT.out _ (HE.out.below HI.out.bel)).mono ?_; rintro e w7 ⟨rfl, hb7⟩; have HB7 := Aside0.mk hb7; have HB7a := Aside0.mk (HI.out.bel.trans (hb7.mono HI.out.bel.size)); clear hb7) | (go_at_call 47; refine (WriteString_k w.heap.size b _ txt _ (builder_below HI.out.bld HB7.out) (by rw [Lib.byteCells_length]; have := HI.out.len; have := HTS.out; omega) HB7a.out.size).mono ?_; rintro e w8 ⟨rfl, h8, hb8, hk8⟩; have H8 := Aside0.mk h8; have HB8 := Aside0.mk (HB7a.out.trans hb8); clear h8 hb8 hk8))
          go_roundw
          case rel =>
            refine ⟨i + n, f - 1, acc ++ txt.data.toList, by go_num, ⟨⟨.inr ?_, HB8.out, ?_, by omega, by omega, by have := HI.out.fuel; omega, ?_⟩⟩⟩
            · have e : Lib.byteCells (acc ++ txt.data.toList) = Lib.byteCells acc ++ Lib.strCells txt := by simp [Lib.byteCells, Lib.strCells]
              rw [e]
              exact H8.out
            · have h1 := HI.out.len
              have h2 := HTS.out.1
              have h3 : txt.data.toList.length = txt.size := Array.length_toList
              rw [List.length_append, h3]
              omega
            · have := HSTEP.out
              rw [if_neg hn] at this
              exact this.symm
          case measure => simp [intOf]; omega
    · have hr : plainLoop (s.size + 1) s 1 [] = (false, i, acc) := by
        have h1 := HI.out.eq
        have h2 := HI.out.fuel
        obtain ⟨f, rfl⟩ : ∃ g, f = g + 1 := ⟨f - 1, by omega⟩
        rw [← h1, plainLoop, if_neg (by omega)]
      have he : plainEnd s (false, i, acc) = (⟨#[]⟩, (i : Int), 10) := by unfold plainEnd; rw [if_neg (by simp), if_pos (by simp only; omega)]
      have HR := Aside0.mk hr
      have HEQ := Aside0.mk he
      clear hr he
      go_wp2
      go_ret3
      exact ⟨by rw [HR.out, HEQ.out]; rfl, HI.out.bel⟩

theorem runes_Plain.calls (a0 : ByteArray) (r1 : ByteArray) (r2 : Int) (r3 : Int) (w : World) (hTU : TabU w) (hTN : TabN w) (hTE : TabE w) (h : runes_Plain.f a0 = some (r1, r2, r3)) :
    Calls Tryd.prog 29 #[.string a0] w fun e w' => e = .returned (.tuple #[.string r1, .int .i64 r2, .int .i64 r3]) ∧ Below w.heap.size w w' := by
  unfold runes_Plain.f at h
  by_cases c1 : 1048576 < a0.size
  · rw [if_pos c1] at h
    injection h with h
    injection h with h1 h
    injection h with h2 h3
    subst h1 h2 h3
    exact plain_big a0 c1 w
  · rw [if_neg c1] at h
    by_cases c2 : Lib.hasPrefix a0.data.toList [34] = false
    · rw [if_pos c2] at h
      injection h with h
      injection h with h1 h
      injection h with h2 h3
      subst h1 h2 h3
      exact plain_bare a0 (by omega) c2 w
    · rw [if_neg c2] at h
      have e := Option.some.inj h
      have := plain_main a0 (by omega) (by simpa using c2) w hTU hTN hTE
      rw [e] at this
      exact this
end Go.Proofs.YtglaagoblcpggaaDoor.R
end

section
namespace Go.Proofs.YtglaagoblcpggaaDoor.R
open Go.RowKit Go.Proofs.YtglaagoblcpggaaDoorW.PrintWords Go.Proofs.YtglaagoblcpggaaDoorW.PrintLast Go.Proofs.YtglaagoblcpggaaDoorW.PrintMore
attribute [local go_sem] max2_int min2_int max_two min_two max_three min_three max_four min_four   -- for this text's walks alone
set_option linter.unusedVariables false
set_option linter.unusedSimpArgs false

/-! ### cognatelaw01_RunesQuotes: function 7 -/
mutual
def cognatelaw01_RunesQuotes.j0 : Nat → ByteArray → ByteArray → List Int → Bool → Option (Bool)
  | 0, _, _, _, _ => none
  | k + 1, x0, x1, x2, x41 => if x41 = true then (some true) else ((runes_Quote.f x0).bind fun bt102 => ((cognateref01_Quote.f k x0).bind fun bt104 => ((runes_Plain.f x1).bind fun bt106 => ((cognateref01_Plain.f k x1).bind fun bt109 => (if ([] : List Int).length + x2.length < 35184372088832 then ((some (([] : List Int) ++ x2 : List Int)).bind fun y112 => (if y112.length < 35184372088832 then ((some (y112 ++ [77] : List Int)).bind fun y115 => (if 0 ≤ (x2.length : Int) then (if (x2.length : Int) ≤ (y115.length : Int) then ((runes_Text.f (y115.take ((x2.length : Int) : Int).toNat)).bind fun t122 => ((cognateref01_Text.f k x2).bind fun t123 => (cognatelaw01_RunesQuotes.l0 k x2 bt102.1 bt102.2 bt104.1 bt104.2 bt106.1 bt106.2.1 bt106.2.2 bt109.1 bt109.2.1 bt109.2.2 y115 (t122.toList == t123.toList) 0))) else (none)) else (none))) else (none))) else (none))))))
def cognatelaw01_RunesQuotes.l0 : Nat → List Int → ByteArray → Int → ByteArray → Int → ByteArray → Int → Int → ByteArray → Int → Int → List Int → Bool → Int → Option (Bool)
  | 0, _, _, _, _, _, _, _, _, _, _, _, _, _, _ => none
  | k + 1, x2, x7, x8, x9, x10, x11, x12, x13, x14, x15, x16, x17, x18, x19 => if x19 < (x2.length : Int) then (if x18 = true then (if 0 ≤ x19 then (if x19 < (x17.length : Int) then (cognatelaw01_RunesQuotes.l0 k x2 x7 x8 x9 x10 x11 x12 x13 x14 x15 x16 x17 ((rd x17 x19) == (rd x2 x19)) (wrap64 (x19 + 1))) else (none)) else (none)) else (cognatelaw01_RunesQuotes.l0 k x2 x7 x8 x9 x10 x11 x12 x13 x14 x15 x16 x17 false (wrap64 (x19 + 1)))) else (if x18 = true then (if 0 ≤ (x2.length : Int) then (if (x2.length : Int) < (x17.length : Int) then (if (rd x17 (x2.length : Int)) = 77 then (if x7.toList = x9.toList then (if x8 = x10 then (if x11.toList = x14.toList then (if x12 = x15 then (some (x13 == x16)) else (some false)) else (some false)) else (some false)) else (some false)) else (some false)) else (none)) else (none)) else (some false))
end
def cognatelaw01_RunesQuotes.f (k : Nat) (a0 : ByteArray) (a1 : ByteArray) (l2 : List Int) : Option (Bool) := (cognatelaw01_long.f a0).bind fun t101 => (if t101 = true then (cognatelaw01_RunesQuotes.j0 k a0 a1 l2 true) else (if (a1.size : Int) > 5000 then (if (a1.size : Int) ≤ 1048576 then (cognatelaw01_RunesQuotes.j0 k a0 a1 l2 true) else (if (a1.size : Int) > 1100000 then (cognatelaw01_RunesQuotes.j0 k a0 a1 l2 true) else (cognatelaw01_RunesQuotes.j0 k a0 a1 l2 (decide ((l2.length : Int) > 3000))))) else (if (a1.size : Int) > 1100000 then (cognatelaw01_RunesQuotes.j0 k a0 a1 l2 true) else (cognatelaw01_RunesQuotes.j0 k a0 a1 l2 (decide ((l2.length : Int) > 3000))))))
theorem cognatelaw01_RunesQuotes.mono_l : ∀ k, (∀ y0 y1 y2 y3, LeO (cognatelaw01_RunesQuotes.j0 k y0 y1 y2 y3) (cognatelaw01_RunesQuotes.j0 (k + 1) y0 y1 y2 y3)) ∧ (∀ y0 y1 y2 y3 y4 y5 y6 y7 y8 y9 y10 y11 y12 y13, LeO (cognatelaw01_RunesQuotes.l0 k y0 y1 y2 y3 y4 y5 y6 y7 y8 y9 y10 y11 y12 y13) (cognatelaw01_RunesQuotes.l0 (k + 1) y0 y1 y2 y3 y4 y5 y6 y7 y8 y9 y10 y11 y12 y13))
  | 0 => ⟨fun _ _ _ _ r h => by simp [cognatelaw01_RunesQuotes.j0] at h, fun _ _ _ _ _ _ _ _ _ _ _ _ _ _ r h => by simp [cognatelaw01_RunesQuotes.l0] at h⟩
  | k + 1 => by
    obtain ⟨ih0, ih1⟩ := cognatelaw01_RunesQuotes.mono_l k
    refine ⟨?_, ?_⟩
    · intro y0 y1 y2 y3
      unfold cognatelaw01_RunesQuotes.j0
      repeat' first
      | (with_reducible exact ih0 _ _ _ _)
      | (with_reducible exact ih1 _ _ _ _ _ _ _ _ _ _ _ _ _ _)
      | (with_reducible exact cognateref01_Plain.mono _ _)
      | (with_reducible exact cognateref01_Quote.mono _ _)
      | (with_reducible exact cognateref01_Text.mono _ _)
      | (with_reducible exact LeO.refl _)
      | (with_reducible exact LeO.none _)
      | (with_reducible refine LeO.ite ?_ ?_)
      | (with_reducible refine LeO.bind ?_ (fun _ => ?_))
      | exact ih0 _ _ _ _
      | exact ih1 _ _ _ _ _ _ _ _ _ _ _ _ _ _
      | exact cognateref01_Plain.mono _ _
      | exact cognateref01_Quote.mono _ _
      | exact cognateref01_Text.mono _ _
      | exact LeO.none _
      | refine LeO.ite ?_ ?_
      | refine LeO.bind ?_ (fun _ => ?_)
    · intro y0 y1 y2 y3 y4 y5 y6 y7 y8 y9 y10 y11 y12 y13
      unfold cognatelaw01_RunesQuotes.l0
      repeat' first
      | (with_reducible exact ih0 _ _ _ _)
      | (with_reducible exact ih1 _ _ _ _ _ _ _ _ _ _ _ _ _ _)
      | (with_reducible exact cognateref01_Plain.mono _ _)
      | (with_reducible exact cognateref01_Quote.mono _ _)
      | (with_reducible exact cognateref01_Text.mono _ _)
      | (with_reducible exact LeO.refl _)
      | (with_reducible exact LeO.none _)
      | (with_reducible refine LeO.ite ?_ ?_)
      | (with_reducible refine LeO.bind ?_ (fun _ => ?_))
      | exact ih0 _ _ _ _
      | exact ih1 _ _ _ _ _ _ _ _ _ _ _ _ _ _
      | exact cognateref01_Plain.mono _ _
      | exact cognateref01_Quote.mono _ _
      | exact cognateref01_Text.mono _ _
      | exact LeO.none _
      | refine LeO.ite ?_ ?_
      | refine LeO.bind ?_ (fun _ => ?_)
theorem cognatelaw01_RunesQuotes.mono : ∀ a0 a1 a2 k, LeO (cognatelaw01_RunesQuotes.f k a0 a1 a2) (cognatelaw01_RunesQuotes.f (k + 1) a0 a1 a2) := by
  intro a0 a1 a2 k
  obtain ⟨ih0, ih1⟩ := cognatelaw01_RunesQuotes.mono_l k
  unfold cognatelaw01_RunesQuotes.f
  repeat' first
      | (with_reducible exact ih0 _ _ _ _)
      | (with_reducible exact ih1 _ _ _ _ _ _ _ _ _ _ _ _ _ _)
      | (with_reducible exact cognateref01_Plain.mono _ _)
      | (with_reducible exact cognateref01_Quote.mono _ _)
      | (with_reducible exact cognateref01_Text.mono _ _)
      | (with_reducible exact LeO.refl _)
      | (with_reducible exact LeO.none _)
      | (with_reducible refine LeO.ite ?_ ?_)
      | (with_reducible refine LeO.bind ?_ (fun _ => ?_))
      | exact ih0 _ _ _ _
      | exact ih1 _ _ _ _ _ _ _ _ _ _ _ _ _ _
      | exact cognateref01_Plain.mono _ _
      | exact cognateref01_Quote.mono _ _
      | exact cognateref01_Text.mono _ _
      | exact LeO.none _
      | refine LeO.ite ?_ ?_
      | refine LeO.bind ?_ (fun _ => ?_)
set_option maxHeartbeats 8000000 in
set_option maxRecDepth 100000 in
theorem cognatelaw01_RunesQuotes.calls (k : Nat) (a0 : ByteArray) (a1 : ByteArray) (A2 : Option Addr) (c2 : Nat) (l2 : List Int) (r : Bool) (w : World) (hTU : TabU w) (hTN : TabN w) (hTE : TabE w) (hr2 : Kd.C (Kd.int .i32) w A2 l2.length l2) (hc2 : l2.length ≤ c2) (h : cognatelaw01_RunesQuotes.f k a0 a1 l2 = some r) :
    Calls Tryd.prog 7 #[.string a0, .string a1, .slice A2 l2.length c2] w fun e w' => e = .returned (.bool r) ∧ Below w.heap.size w w' := by
  have HR2 := Aside0.mk hr2
  have HC2 := Aside0.mk hc2
  clear hr2 hc2
  have HB := Aside0.mk (Below.refl w.heap.size w)
  have H : ((cognatelaw01_long.f a0).bind fun t101 => (if t101 = true then (cognatelaw01_RunesQuotes.j0 k a0 a1 l2 true) else (if (a1.size : Int) > 5000 then (if (a1.size : Int) ≤ 1048576 then (cognatelaw01_RunesQuotes.j0 k a0 a1 l2 true) else (if (a1.size : Int) > 1100000 then (cognatelaw01_RunesQuotes.j0 k a0 a1 l2 true) else (cognatelaw01_RunesQuotes.j0 k a0 a1 l2 (decide ((l2.length : Int) > 3000))))) else (if (a1.size : Int) > 1100000 then (cognatelaw01_RunesQuotes.j0 k a0 a1 l2 true) else (cognatelaw01_RunesQuotes.j0 k a0 a1 l2 (decide ((l2.length : Int) > 3000))))))) = some r := h
  clear h
  have HTU := Aside0.mk hTU
  clear hTU
  have HTN := Aside0.mk hTN
  clear hTN
  have HTE := Aside0.mk hTE
  clear hTE
  have HC4 := Aside0.mk H
  clear H
  go_enter Tryd.func7, Tryd.ntmps7
  go_upto_region 1 with (fail)
  repeat (go_quiet (fail); go_upto_region 1 with (fail))
  go_cut [41] (fun v41 wc => ∃ (kq : Nat) (x41_3 : Bool), v41 = .bool x41_3 ∧ Aside0 (cognatelaw01_RunesQuotes.j0 kq a0 a1 l2 x41_3 = some r) ∧ Aside0 (kq ≤ k) ∧ Aside0 (Below w.heap.size w wc))
  case first =>
    have H := HC4.out
    clear HC4
    replace H := Option.bind_eq_some_iff.mp H
    obtain ⟨t101, A50, H⟩ := H
    replace H : (if t101 = true then (cognatelaw01_RunesQuotes.j0 k a0 a1 l2 true) else (if (a1.size : Int) > 5000 then (if (a1.size : Int) ≤ 1048576 then (cognatelaw01_RunesQuotes.j0 k a0 a1 l2 true) else (if (a1.size : Int) > 1100000 then (cognatelaw01_RunesQuotes.j0 k a0 a1 l2 true) else (cognatelaw01_RunesQuotes.j0 k a0 a1 l2 (decide ((l2.length : Int) > 3000))))) else (if (a1.size : Int) > 1100000 then (cognatelaw01_RunesQuotes.j0 k a0 a1 l2 true) else (cognatelaw01_RunesQuotes.j0 k a0 a1 l2 (decide ((l2.length : Int) > 3000)))))) = some r := H
    have A5 := Aside0.mk A50
    clear A50
    by_cases c6 : t101 = true
    · subst c6
      have H1 : (cognatelaw01_RunesQuotes.j0 k a0 a1 l2 true) = some r := by rw [if_pos rfl] at H; exact H
      clear H
      have H := H1
      clear H1
      have H' := Aside0.mk H
      clear H
      go_wp2_with (first | (go_at_call 12; (with_reducible refine (cognatelaw01_long.calls a0 true _ A5.out).mono ?_); rintro e w' ⟨rfl, ⟨nd, rfl⟩⟩; (try first | exact ⟨rfl, _, World.drewN_drewN _ _ _⟩ | exact ⟨rfl, _, Eq.trans (World.drewN_drewN _ _ _) (congrArg (World.drewN _) (Nat.add_assoc _ _ _))⟩)))
      repeat (go_quiet (first | (go_at_call 12; (with_reducible refine (cognatelaw01_long.calls a0 true _ A5.out).mono ?_); rintro e w' ⟨rfl, ⟨nd, rfl⟩⟩; (try first | exact ⟨rfl, _, World.drewN_drewN _ _ _⟩ | exact ⟨rfl, _, Eq.trans (World.drewN_drewN _ _ _) (congrArg (World.drewN _) (Nat.add_assoc _ _ _))⟩))); try go_wp2_with (first | (go_at_call 12; (with_reducible refine (cognatelaw01_long.calls a0 true _ A5.out).mono ?_); rintro e w' ⟨rfl, ⟨nd, rfl⟩⟩; (try first | exact ⟨rfl, _, World.drewN_drewN _ _ _⟩ | exact ⟨rfl, _, Eq.trans (World.drewN_drewN _ _ _) (congrArg (World.drewN _) (Nat.add_assoc _ _ _))⟩))))
      go_meet
      case rel => exact ⟨_, (true), (by first | rfl | (simp; done) | (simp [*]; done)), H', ⟨by first | omega | exact Nat.le_refl _⟩, ⟨by repeat (first | (with_reducible first | exact HB.out | apply below_alloc | apply pw_below_drewN | apply below_drew1) | exact HB.out)⟩⟩
    · replace c6 := Bool.eq_false_iff.mpr c6
      subst c6
      have H1 : (if (a1.size : Int) > 5000 then (if (a1.size : Int) ≤ 1048576 then (cognatelaw01_RunesQuotes.j0 k a0 a1 l2 true) else (if (a1.size : Int) > 1100000 then (cognatelaw01_RunesQuotes.j0 k a0 a1 l2 true) else (cognatelaw01_RunesQuotes.j0 k a0 a1 l2 (decide ((l2.length : Int) > 3000))))) else (if (a1.size : Int) > 1100000 then (cognatelaw01_RunesQuotes.j0 k a0 a1 l2 true) else (cognatelaw01_RunesQuotes.j0 k a0 a1 l2 (decide ((l2.length : Int) > 3000))))) = some r := by rw [if_neg (show ¬ (false = true) by decide)] at H; exact H
      clear H
      have H := H1
      clear H1
      by_cases c7 : (a1.size : Int) > 5000
      · rw [if_pos c7] at H
        have c7b0 : decide (5000 < (a1.size : Int)) = true := decide_eq_true c7
        have c7b1 : decide (5000 < a1.size) = true := decide_eq_true (by omega)
        clear c7
        (first | rw [c7b0] | (simp only [i64_w, i32_w]; rw [c7b0]) | skip)
        by_cases c8 : (a1.size : Int) ≤ 1048576
        · rw [if_pos c8] at H
          have c8b0 : decide ((a1.size : Int) ≤ 1048576) = true := decide_eq_true c8
          have c8b1 : decide (a1.size ≤ 1048576) = true := decide_eq_true (by omega)
          clear c8
          have H' := Aside0.mk H
          clear H
          go_wp2_with (first | (go_at_call 12; (with_reducible refine (cognatelaw01_long.calls a0 false _ A5.out).mono ?_); rintro e w' ⟨rfl, ⟨nd, rfl⟩⟩; (try first | exact ⟨rfl, _, World.drewN_drewN _ _ _⟩ | exact ⟨rfl, _, Eq.trans (World.drewN_drewN _ _ _) (congrArg (World.drewN _) (Nat.add_assoc _ _ _))⟩)))
          repeat (go_quiet (first | (go_at_call 12; (with_reducible refine (cognatelaw01_long.calls a0 false _ A5.out).mono ?_); rintro e w' ⟨rfl, ⟨nd, rfl⟩⟩; (try first | exact ⟨rfl, _, World.drewN_drewN _ _ _⟩ | exact ⟨rfl, _, Eq.trans (World.drewN_drewN _ _ _) (congrArg (World.drewN _) (Nat.add_assoc _ _ _))⟩))); try go_wp2_with (first | (go_at_call 12; (with_reducible refine (cognatelaw01_long.calls a0 false _ A5.out).mono ?_); rintro e w' ⟨rfl, ⟨nd, rfl⟩⟩; (try first | exact ⟨rfl, _, World.drewN_drewN _ _ _⟩ | exact ⟨rfl, _, Eq.trans (World.drewN_drewN _ _ _) (congrArg (World.drewN _) (Nat.add_assoc _ _ _))⟩))))
          go_meet
          case rel => exact ⟨_, (true), (by first | rfl | (simp; done) | (simp [*]; done)), H', ⟨by first | omega | exact Nat.le_refl _⟩, ⟨by repeat (first | (with_reducible first | exact HB.out | apply below_alloc | apply pw_below_drewN | apply below_drew1) | exact HB.out)⟩⟩
        · rw [if_neg c8] at H
          have c8b0 : decide ((a1.size : Int) ≤ 1048576) = false := decide_eq_false c8
          have c8b1 : decide (a1.size ≤ 1048576) = false := decide_eq_false (by omega)
          clear c8
          by_cases c9 : (a1.size : Int) > 1100000
          · rw [if_pos c9] at H
            have c9b0 : decide (1100000 < (a1.size : Int)) = true := decide_eq_true c9
            have c9b1 : decide (1100000 < a1.size) = true := decide_eq_true (by omega)
            clear c9
            have H' := Aside0.mk H
            clear H
            go_wp2_with (first | (go_at_call 12; (with_reducible refine (cognatelaw01_long.calls a0 false _ A5.out).mono ?_); rintro e w' ⟨rfl, ⟨nd, rfl⟩⟩; (try first | exact ⟨rfl, _, World.drewN_drewN _ _ _⟩ | exact ⟨rfl, _, Eq.trans (World.drewN_drewN _ _ _) (congrArg (World.drewN _) (Nat.add_assoc _ _ _))⟩)))
            repeat (go_quiet (first | (go_at_call 12; (with_reducible refine (cognatelaw01_long.calls a0 false _ A5.out).mono ?_); rintro e w' ⟨rfl, ⟨nd, rfl⟩⟩; (try first | exact ⟨rfl, _, World.drewN_drewN _ _ _⟩ | exact ⟨rfl, _, Eq.trans (World.drewN_drewN _ _ _) (congrArg (World.drewN _) (Nat.add_assoc _ _ _))⟩))); try go_wp2_with (first | (go_at_call 12; (with_reducible refine (cognatelaw01_long.calls a0 false _ A5.out).mono ?_); rintro e w' ⟨rfl, ⟨nd, rfl⟩⟩; (try first | exact ⟨rfl, _, World.drewN_drewN _ _ _⟩ | exact ⟨rfl, _, Eq.trans (World.drewN_drewN _ _ _) (congrArg (World.drewN _) (Nat.add_assoc _ _ _))⟩))))
            go_meet
            case rel => exact ⟨_, (true), (by first | rfl | (simp; done) | (simp [*]; done)), H', ⟨by first | omega | exact Nat.le_refl _⟩, ⟨by repeat (first | (with_reducible first | exact HB.out | apply below_alloc | apply pw_below_drewN | apply below_drew1) | exact HB.out)⟩⟩
          · rw [if_neg c9] at H
            have c9b0 : decide (1100000 < (a1.size : Int)) = false := decide_eq_false c9
            have c9b1 : decide (1100000 < a1.size) = false := decide_eq_false (by omega)
            clear c9
            have H' := Aside0.mk H
            clear H
            go_wp2_with (first | (go_at_call 12; (with_reducible refine (cognatelaw01_long.calls a0 false _ A5.out).mono ?_); rintro e w' ⟨rfl, ⟨nd, rfl⟩⟩; (try first | exact ⟨rfl, _, World.drewN_drewN _ _ _⟩ | exact ⟨rfl, _, Eq.trans (World.drewN_drewN _ _ _) (congrArg (World.drewN _) (Nat.add_assoc _ _ _))⟩)))
            repeat (go_quiet (first | (go_at_call 12; (with_reducible refine (cognatelaw01_long.calls a0 false _ A5.out).mono ?_); rintro e w' ⟨rfl, ⟨nd, rfl⟩⟩; (try first | exact ⟨rfl, _, World.drewN_drewN _ _ _⟩ | exact ⟨rfl, _, Eq.trans (World.drewN_drewN _ _ _) (congrArg (World.drewN _) (Nat.add_assoc _ _ _))⟩))); try go_wp2_with (first | (go_at_call 12; (with_reducible refine (cognatelaw01_long.calls a0 false _ A5.out).mono ?_); rintro e w' ⟨rfl, ⟨nd, rfl⟩⟩; (try first | exact ⟨rfl, _, World.drewN_drewN _ _ _⟩ | exact ⟨rfl, _, Eq.trans (World.drewN_drewN _ _ _) (congrArg (World.drewN _) (Nat.add_assoc _ _ _))⟩))))
            go_meet
            case rel => exact ⟨_, (decide ((l2.length : Int) > 3000)), (by first | rfl | (simp; done) | (simp [*]; done)), H', ⟨by first | omega | exact Nat.le_refl _⟩, ⟨by repeat (first | (with_reducible first | exact HB.out | apply below_alloc | apply pw_below_drewN | apply below_drew1) | exact HB.out)⟩⟩
      · rw [if_neg c7] at H
        have c7b0 : decide (5000 < (a1.size : Int)) = false := decide_eq_false c7
        have c7b1 : decide (5000 < a1.size) = false := decide_eq_false (by omega)
        clear c7
        (first | rw [c7b0] | (simp only [i64_w, i32_w]; rw [c7b0]) | skip)
        by_cases c10 : (a1.size : Int) > 1100000
        · rw [if_pos c10] at H
          have c10b0 : decide (1100000 < (a1.size : Int)) = true := decide_eq_true c10
          have c10b1 : decide (1100000 < a1.size) = true := decide_eq_true (by omega)
          clear c10
          have H' := Aside0.mk H
          clear H
          go_wp2_with (first | (go_at_call 12; (with_reducible refine (cognatelaw01_long.calls a0 false _ A5.out).mono ?_); rintro e w' ⟨rfl, ⟨nd, rfl⟩⟩; (try first | exact ⟨rfl, _, World.drewN_drewN _ _ _⟩ | exact ⟨rfl, _, Eq.trans (World.drewN_drewN _ _ _) (congrArg (World.drewN _) (Nat.add_assoc _ _ _))⟩)))
          repeat (go_quiet (first | (go_at_call 12; (with_reducible refine (cognatelaw01_long.calls a0 false _ A5.out).mono ?_); rintro e w' ⟨rfl, ⟨nd, rfl⟩⟩; (try first | exact ⟨rfl, _, World.drewN_drewN _ _ _⟩ | exact ⟨rfl, _, Eq.trans (World.drewN_drewN _ _ _) (congrArg (World.drewN _) (Nat.add_assoc _ _ _))⟩))); try go_wp2_with (first | (go_at_call 12; (with_reducible refine (cognatelaw01_long.calls a0 false _ A5.out).mono ?_); rintro e w' ⟨rfl, ⟨nd, rfl⟩⟩; (try first | exact ⟨rfl, _, World.drewN_drewN _ _ _⟩ | exact ⟨rfl, _, Eq.trans (World.drewN_drewN _ _ _) (congrArg (World.drewN _) (Nat.add_assoc _ _ _))⟩))))
          go_meet
          case rel => exact ⟨_, (true), (by first | rfl | (simp; done) | (simp [*]; done)), H', ⟨by first | omega | exact Nat.le_refl _⟩, ⟨by repeat (first | (with_reducible first | exact HB.out | apply below_alloc | apply pw_below_drewN | apply below_drew1) | exact HB.out)⟩⟩
        · rw [if_neg c10] at H
          have c10b0 : decide (1100000 < (a1.size : Int)) = false := decide_eq_false c10
          have c10b1 : decide (1100000 < a1.size) = false := decide_eq_false (by omega)
          clear c10
          have H' := Aside0.mk H
          clear H
          go_wp2_with (first | (go_at_call 12; (with_reducible refine (cognatelaw01_long.calls a0 false _ A5.out).mono ?_); rintro e w' ⟨rfl, ⟨nd, rfl⟩⟩; (try first | exact ⟨rfl, _, World.drewN_drewN _ _ _⟩ | exact ⟨rfl, _, Eq.trans (World.drewN_drewN _ _ _) (congrArg (World.drewN _) (Nat.add_assoc _ _ _))⟩)))
          repeat (go_quiet (first | (go_at_call 12; (with_reducible refine (cognatelaw01_long.calls a0 false _ A5.out).mono ?_); rintro e w' ⟨rfl, ⟨nd, rfl⟩⟩; (try first | exact ⟨rfl, _, World.drewN_drewN _ _ _⟩ | exact ⟨rfl, _, Eq.trans (World.drewN_drewN _ _ _) (congrArg (World.drewN _) (Nat.add_assoc _ _ _))⟩))); try go_wp2_with (first | (go_at_call 12; (with_reducible refine (cognatelaw01_long.calls a0 false _ A5.out).mono ?_); rintro e w' ⟨rfl, ⟨nd, rfl⟩⟩; (try first | exact ⟨rfl, _, World.drewN_drewN _ _ _⟩ | exact ⟨rfl, _, Eq.trans (World.drewN_drewN _ _ _) (congrArg (World.drewN _) (Nat.add_assoc _ _ _))⟩))))
          go_meet
          case rel => exact ⟨_, (decide ((l2.length : Int) > 3000)), (by first | rfl | (simp; done) | (simp [*]; done)), H', ⟨by first | omega | exact Nat.le_refl _⟩, ⟨by repeat (first | (with_reducible first | exact HB.out | apply below_alloc | apply pw_below_drewN | apply below_drew1) | exact HB.out)⟩⟩
  case rest =>
    clear HC4
    try clear c1
    try clear c2
    try clear p2
    try clear c6
    try clear c7
    try clear c7b0
    try clear c7b1
    try clear c8
    try clear c8b0
    try clear c8b1
    try clear c9
    try clear c9b0
    try clear c9b1
    try clear c10
    try clear c10b0
    try clear c10b1
    obtain ⟨kq, x41_3, rfl, HA, HJ3, HB⟩ := hcut
    cases kq with
    | zero => exact absurd HA.out (by simp [cognatelaw01_RunesQuotes.j0])
    | succ kj3 =>
      have H := HA.out
      clear HA
      simp only [cognatelaw01_RunesQuotes.j0] at H
      by_cases c11 : x41_3 = true
      · subst c11
        have H1 : (some true) = some r := by rw [if_pos rfl] at H; exact H
        clear H
        have H := H1
        clear H1
        obtain rfl := Option.some.inj H
        go_wp2
        repeat (go_quiet (fail); try go_wp2)
        go_ret
        exact ⟨by first | rfl | (simp [errW_none, errW_some] <;> rfl) | (simp [*, errW_none, errW_some] <;> rfl), by repeat (first | (with_reducible first | exact HB.out | apply below_alloc | apply pw_below_drewN | apply below_drew1) | exact HB.out)⟩
      · replace c11 := Bool.eq_false_iff.mpr c11
        subst c11
        have H1 : ((runes_Quote.f a0).bind fun bt102 => ((cognateref01_Quote.f kj3 a0).bind fun bt104 => ((runes_Plain.f a1).bind fun bt106 => ((cognateref01_Plain.f kj3 a1).bind fun bt109 => (if ([] : List Int).length + l2.length < 35184372088832 then ((some (([] : List Int) ++ l2 : List Int)).bind fun y112 => (if y112.length < 35184372088832 then ((some (y112 ++ [77] : List Int)).bind fun y115 => (if 0 ≤ (l2.length : Int) then (if (l2.length : Int) ≤ (y115.length : Int) then ((runes_Text.f (y115.take ((l2.length : Int) : Int).toNat)).bind fun t122 => ((cognateref01_Text.f kj3 l2).bind fun t123 => (cognatelaw01_RunesQuotes.l0 kj3 l2 bt102.1 bt102.2 bt104.1 bt104.2 bt106.1 bt106.2.1 bt106.2.2 bt109.1 bt109.2.1 bt109.2.2 y115 (t122.toList == t123.toList) 0))) else (none)) else (none))) else (none))) else (none)))))) = some r := by rw [if_neg (show ¬ (false = true) by decide)] at H; exact H
        clear H
        have H := H1
        clear H1
        replace H := Option.bind_eq_some_iff.mp H
        obtain ⟨⟨t102, t103⟩, A120, H⟩ := H
        replace H : ((cognateref01_Quote.f kj3 a0).bind fun bt104 => ((runes_Plain.f a1).bind fun bt106 => ((cognateref01_Plain.f kj3 a1).bind fun bt109 => (if ([] : List Int).length + l2.length < 35184372088832 then ((some (([] : List Int) ++ l2 : List Int)).bind fun y112 => (if y112.length < 35184372088832 then ((some (y112 ++ [77] : List Int)).bind fun y115 => (if 0 ≤ (l2.length : Int) then (if (l2.length : Int) ≤ (y115.length : Int) then ((runes_Text.f (y115.take ((l2.length : Int) : Int).toNat)).bind fun t122 => ((cognateref01_Text.f kj3 l2).bind fun t123 => (cognatelaw01_RunesQuotes.l0 kj3 l2 t102 t103 bt104.1 bt104.2 bt106.1 bt106.2.1 bt106.2.2 bt109.1 bt109.2.1 bt109.2.2 y115 (t122.toList == t123.toList) 0))) else (none)) else (none))) else (none))) else (none))))) = some r := H
        have A12 := Aside0.mk A120
        clear A120
        replace H := Option.bind_eq_some_iff.mp H
        obtain ⟨⟨t104, t105⟩, A130, H⟩ := H
        replace H : ((runes_Plain.f a1).bind fun bt106 => ((cognateref01_Plain.f kj3 a1).bind fun bt109 => (if ([] : List Int).length + l2.length < 35184372088832 then ((some (([] : List Int) ++ l2 : List Int)).bind fun y112 => (if y112.length < 35184372088832 then ((some (y112 ++ [77] : List Int)).bind fun y115 => (if 0 ≤ (l2.length : Int) then (if (l2.length : Int) ≤ (y115.length : Int) then ((runes_Text.f (y115.take ((l2.length : Int) : Int).toNat)).bind fun t122 => ((cognateref01_Text.f kj3 l2).bind fun t123 => (cognatelaw01_RunesQuotes.l0 kj3 l2 t102 t103 t104 t105 bt106.1 bt106.2.1 bt106.2.2 bt109.1 bt109.2.1 bt109.2.2 y115 (t122.toList == t123.toList) 0))) else (none)) else (none))) else (none))) else (none)))) = some r := H
        have A13 := Aside0.mk A130
        clear A130
        replace H := Option.bind_eq_some_iff.mp H
        obtain ⟨⟨t106, t107, t108⟩, A140, H⟩ := H
        replace H : ((cognateref01_Plain.f kj3 a1).bind fun bt109 => (if ([] : List Int).length + l2.length < 35184372088832 then ((some (([] : List Int) ++ l2 : List Int)).bind fun y112 => (if y112.length < 35184372088832 then ((some (y112 ++ [77] : List Int)).bind fun y115 => (if 0 ≤ (l2.length : Int) then (if (l2.length : Int) ≤ (y115.length : Int) then ((runes_Text.f (y115.take ((l2.length : Int) : Int).toNat)).bind fun t122 => ((cognateref01_Text.f kj3 l2).bind fun t123 => (cognatelaw01_RunesQuotes.l0 kj3 l2 t102 t103 t104 t105 t106 t107 t108 bt109.1 bt109.2.1 bt109.2.2 y115 (t122.toList == t123.toList) 0))) else (none)) else (none))) else (none))) else (none))) = some r := H
        have A14 := Aside0.mk A140
        clear A140
        replace H := Option.bind_eq_some_iff.mp H
        obtain ⟨⟨t109, t110, t111⟩, A150, H⟩ := H
        replace H : (if ([] : List Int).length + l2.length < 35184372088832 then ((some (([] : List Int) ++ l2 : List Int)).bind fun y112 => (if y112.length < 35184372088832 then ((some (y112 ++ [77] : List Int)).bind fun y115 => (if 0 ≤ (l2.length : Int) then (if (l2.length : Int) ≤ (y115.length : Int) then ((runes_Text.f (y115.take ((l2.length : Int) : Int).toNat)).bind fun t122 => ((cognateref01_Text.f kj3 l2).bind fun t123 => (cognatelaw01_RunesQuotes.l0 kj3 l2 t102 t103 t104 t105 t106 t107 t108 t109 t110 t111 y115 (t122.toList == t123.toList) 0))) else (none)) else (none))) else (none))) else (none)) = some r := H
        have A15 := Aside0.mk A150
        clear A150
        by_cases c16 : ([] : List Int).length + l2.length < 35184372088832
        · rw [if_pos c16] at H
          have LMc16 := Aside0.mk c16
          clear c16
          obtain ⟨y112, hy112⟩ : ∃ y_ : List Int, y_ = (([] : List Int) ++ l2) := ⟨_, rfl⟩
          replace H : (if y112.length < 35184372088832 then ((some (y112 ++ [77] : List Int)).bind fun y115 => (if 0 ≤ (l2.length : Int) then (if (l2.length : Int) ≤ (y115.length : Int) then ((runes_Text.f (y115.take ((l2.length : Int) : Int).toNat)).bind fun t122 => ((cognateref01_Text.f kj3 l2).bind fun t123 => (cognatelaw01_RunesQuotes.l0 kj3 l2 t102 t103 t104 t105 t106 t107 t108 t109 t110 t111 y115 (t122.toList == t123.toList) 0))) else (none)) else (none))) else (none)) = some r := by first | (rw [hy112]; with_reducible exact H) | (have H2_ := (Option.bind_some _ _).symm.trans H; rw [hy112]; with_reducible exact H2_) | (have H2_ := (Option.bind_some _ _).symm.trans H; with_reducible exact H2_) | with_reducible exact H | (rw [hy112]; exact H) | exact H
          have Ny112 := Aside0.mk hy112
          clear hy112
          by_cases c17 : y112.length < 35184372088832
          · rw [if_pos c17] at H
            have LMc17 := Aside0.mk c17
            clear c17
            obtain ⟨y115, hy115⟩ : ∃ y_ : List Int, y_ = (y112 ++ [77]) := ⟨_, rfl⟩
            replace H : (if 0 ≤ (l2.length : Int) then (if (l2.length : Int) ≤ (y115.length : Int) then ((runes_Text.f (y115.take ((l2.length : Int) : Int).toNat)).bind fun t122 => ((cognateref01_Text.f kj3 l2).bind fun t123 => (cognatelaw01_RunesQuotes.l0 kj3 l2 t102 t103 t104 t105 t106 t107 t108 t109 t110 t111 y115 (t122.toList == t123.toList) 0))) else (none)) else (none)) = some r := by first | (rw [hy115]; with_reducible exact H) | (have H2_ := (Option.bind_some _ _).symm.trans H; rw [hy115]; with_reducible exact H2_) | (have H2_ := (Option.bind_some _ _).symm.trans H; with_reducible exact H2_) | with_reducible exact H | (rw [hy115]; exact H) | exact H
            have Ny115 := Aside0.mk hy115
            clear hy115
            by_cases c18 : 0 ≤ (l2.length : Int)
            · rw [if_pos c18] at H
              have c18b0 := eq_true c18
              have c18b1 : decide (0 ≤ (l2.length : Int)) = true := decide_eq_true c18
              clear c18
              by_cases c19 : (l2.length : Int) ≤ (y115.length : Int)
              · rw [if_pos c19] at H
                have c19b0 := eq_true c19
                have c19b1 : decide ((l2.length : Int) ≤ (y115.length : Int)) = true := decide_eq_true c19
                clear c19
                obtain ⟨y118, hy118⟩ : ∃ y_ : List Int, y_ = (y115.take ((l2.length : Int) : Int).toNat) := ⟨_, rfl⟩
                replace H : ((runes_Text.f y118).bind fun t122 => ((cognateref01_Text.f kj3 l2).bind fun t123 => (cognatelaw01_RunesQuotes.l0 kj3 l2 t102 t103 t104 t105 t106 t107 t108 t109 t110 t111 y115 (t122.toList == t123.toList) 0))) = some r := by first | (rw [hy118]; with_reducible exact H) | (have H2_ := (Option.bind_some _ _).symm.trans H; rw [hy118]; with_reducible exact H2_) | (have H2_ := (Option.bind_some _ _).symm.trans H; with_reducible exact H2_) | with_reducible exact H | (rw [hy118]; exact H) | exact H
                have Ny118 := Aside0.mk hy118
                clear hy118
                replace H := Option.bind_eq_some_iff.mp H
                obtain ⟨t122, A200, H⟩ := H
                replace H : ((cognateref01_Text.f kj3 l2).bind fun t123 => (cognatelaw01_RunesQuotes.l0 kj3 l2 t102 t103 t104 t105 t106 t107 t108 t109 t110 t111 y115 (t122.toList == t123.toList) 0)) = some r := H
                have A20 := Aside0.mk A200
                clear A200
                replace H := Option.bind_eq_some_iff.mp H
                obtain ⟨t123, A210, H⟩ := H
                replace H : (cognatelaw01_RunesQuotes.l0 kj3 l2 t102 t103 t104 t105 t106 t107 t108 t109 t110 t111 y115 (t122.toList == t123.toList) 0) = some r := H
                have A21 := Aside0.mk A210
                clear A210
                have H' := Aside0.mk H
                clear H
                go_wp2_with (first | (go_at_call 27; (with_reducible refine (runes_Quote.calls a0 t102 t103 _ ?side1 ?side2 A12.out).mono ?_); (case side1 => exact TabU.below HTU.out (by repeat (first | (with_reducible first | exact HB.out | apply below_alloc | apply pw_below_drewN | apply below_drew1) | exact HB.out))); (case side2 => exact TabN.below HTN.out (by repeat (first | (with_reducible first | exact HB.out | apply below_alloc | apply pw_below_drewN | apply below_drew1) | exact HB.out))); rintro e w22 ⟨rfl, hb⟩; have n0_ := Aside0.mk (below_step (by repeat (first | (with_reducible first | exact HB.out | apply below_alloc | apply pw_below_drewN | apply below_drew1) | exact HB.out)) hb); clear HB; have HB := n0_; clear n0_; (try clear hb); (try clear hb2); (try clear hk); (try clear hi)) | (go_at_call 28; (with_reducible refine (cognateref01_Quote.calls kj3 a0 t104 t105 _ A13.out).mono ?_); rintro e w23 ⟨rfl, hb⟩; have n0_ := Aside0.mk (below_step (by repeat (first | (with_reducible first | exact HB.out | apply below_alloc | apply pw_below_drewN | apply below_drew1) | exact HB.out)) hb); clear HB; have HB := n0_; clear n0_; (try clear hb); (try clear hb2); (try clear hk); (try clear hi)) | (go_at_call 29; (with_reducible refine (runes_Plain.calls a1 t106 t107 t108 _ ?side1 ?side2 ?side3 A14.out).mono ?_); (case side1 => exact TabU.below HTU.out (by repeat (first | (with_reducible first | exact HB.out | apply below_alloc | apply pw_below_drewN | apply below_drew1) | exact HB.out))); (case side2 => exact TabN.below HTN.out (by repeat (first | (with_reducible first | exact HB.out | apply below_alloc | apply pw_below_drewN | apply below_drew1) | exact HB.out))); (case side3 => exact TabE.below HTE.out (by repeat (first | (with_reducible first | exact HB.out | apply below_alloc | apply pw_below_drewN | apply below_drew1) | exact HB.out))); rintro e w24 ⟨rfl, hb⟩; have n0_ := Aside0.mk (below_step (by repeat (first | (with_reducible first | exact HB.out | apply below_alloc | apply pw_below_drewN | apply below_drew1) | exact HB.out)) hb); clear HB; have HB := n0_; clear n0_; (try clear hb); (try clear hb2); (try clear hk); (try clear hi)) | (go_at_call 30; (with_reducible refine (cognateref01_Plain.calls kj3 a1 t109 t110 t111 _ A15.out).mono ?_); rintro e w25 ⟨rfl, hb⟩; have n0_ := Aside0.mk (below_step (by repeat (first | (with_reducible first | exact HB.out | apply below_alloc | apply pw_below_drewN | apply below_drew1) | exact HB.out)) hb); clear HB; have HB := n0_; clear n0_; (try clear hb); (try clear hb2); (try clear hk); (try clear hi)) | ((with_reducible refine gate_builtin (b := .append) (xs := #[.tmp 64, .tmp 65]) rfl ?_); (try (refine gate_guard (by rfl) ?_; dsimp only)); at_builtin; refine Kd.R_append_rows (Kd.int .i32) (w0 := w) w.heap.size rfl (.tmp 64) (.tmp 65) 39 21 (.int .i32 0) 4 rfl Tryd.underlying39 info21 rfl (by decide) (by omega) (.slice none 0 0) ([] : List Int) l2 _ _ _ (fun _ => True) (fun _ => False) rfl rfl ?aO ?aR (fun _ _ h => h) (fun _ h => h.elim) ?aF ?aB ?aS ?aL ?_; (case aR => repeat (first | exact (Kd.C_below HR2.out HB.out) | (with_reducible refine Kd.C_alloc ?_ _) | (with_reducible refine Kd.C_drewN ?_ _) | (with_reducible refine Kd.C_drew ?_))); (case aB => exact (by repeat (first | (with_reducible first | exact HB.out | apply below_alloc | apply pw_below_drewN | apply below_drew1) | exact HB.out))); (case aF => exact (fun _ _ => trivial)); (case aO => exact ((Kd.R_nil _ _ _ _ (fun _ => True)))); (case aS => exact (below_size (by repeat (first | (with_reducible first | exact HB.out | apply below_alloc | apply pw_below_drewN | apply below_drew1) | exact HB.out)))); (case aL => have := LMc16.out; omega); intro v113 w26 ho hb hg hat; rw [← Ny112.out] at ho; have n0_ := Aside0.mk (hb); have n1_ := Aside0.mk (ho); clear HB; have HB := n0_; have HO114 := n1_; clear n0_ n1_; clear ho hb hg hat) | ((with_reducible refine gate_builtin (b := .append) (xs := #[.tmp 67, .tmp 68]) rfl ?_); (try (refine gate_guard (by rfl) ?_; dsimp only)); at_builtin; refine Kd.R_append (Kd.int .i32) (w0 := w) w.heap.size rfl (.tmp 67) (.tmp 68) 39 21 (.int .i32 0) 4 rfl Tryd.underlying39 info21 rfl (by decide) (by omega) v113 y112 77 [.int .i32 77] (fun _ => True) (fun _ => False) rfl rfl ?aP (fun _ hk => hk.elim) ?aF ?aO ?aB ?aS ?aL ?_; (case aP => exact rfl); (case aB => exact (by repeat (first | (with_reducible first | exact HB.out | apply below_alloc | apply pw_below_drewN | apply below_drew1) | exact HB.out))); (case aF => exact (fun _ _ => trivial)); (case aO => exact (by (with_reducible repeat (first | apply Kd.R_alloc | apply Kd.R_drewN | apply Kd.R_drew)); exact HO114.out)); (case aS => exact (below_size (by repeat (first | (with_reducible first | exact HB.out | apply below_alloc | apply pw_below_drewN | apply below_drew1) | exact HB.out)))); (case aL => have := LMc17.out; omega); intro v116 w27 ho hb hg hat; rw [← Ny115.out] at ho; have n0_ := Aside0.mk (hb); have n1_ := Aside0.mk (ho); clear HB; clear HO114; have HB := n0_; have HO117 := n1_; clear n0_ n1_; clear ho hb hg hat; obtain ⟨Ao29, co29, eo29⟩ := Kd.R_slice HO117.out; subst eo29; have q28 : ((l2.length : Int) : Int) ≤ ((y115.length : Int) : Int) := of_decide_eq_true (by first | (with_reducible assumption) | assumption); obtain ⟨i028, hi028, _, hsz28, _⟩ := info_parts info21; have hroom28 : y115.length ≤ co29 := (Kd.R_reads' HO117.out).2.1; have hC28 : Kd.C (Kd.int .i32) _ Ao29 y115.length y115 := (Kd.R_reads' HO117.out).2.2; have hcut28 := cut_to (P := Tryd.prog) 39 21 .i64 Tryd.underlying39 hi028 Ao29 y115.length co29 (l2.length : Int) (of_decide_eq_true (by first | (with_reducible assumption) | assumption)) q28 hroom28; have hr28 := Kd.C_take (m := ((l2.length : Int) : Int).toNat) hC28 (by omega); have hy28 : y118.length = ((l2.length : Int) : Int).toNat := (by rw [Ny118.out, List.length_take]; omega); rw [← Ny118.out] at hr28; rw [← hy28] at hcut28; have HR121 := Aside0.mk hr28; have HC121 := Aside0.mk (show y118.length ≤ co29 from by omega); clear hr28 hC28 hroom28 hi028 hsz28; have KY28 := Aside0.mk hy28; clear hy28; have KL28 := Aside0.mk (show ((l2.length : Int) : Int).toNat ≤ y115.length from by omega); replace q28 := eq_true q28) | (go_at_call 26; (with_reducible refine (runes_Text.calls _ _ y118 t122 _ ?side1 ?side2 A20.out).mono ?_); (case side1 => repeat (first | exact (by repeat (first | (with_reducible exact HR121.out) | (with_reducible refine Kd.C_alloc ?_ _) | (with_reducible refine Kd.C_drewN ?_ _) | (with_reducible refine Kd.C_drew ?_) | exact HR121.out)) | (with_reducible refine Kd.C_alloc ?_ _) | (with_reducible refine Kd.C_drewN ?_ _) | (with_reducible refine Kd.C_drew ?_))); (case side2 => exact HC121.out); rintro e w' ⟨rfl, ⟨nd, rfl⟩⟩; (try first | exact ⟨rfl, _, World.drewN_drewN _ _ _⟩ | exact ⟨rfl, _, Eq.trans (World.drewN_drewN _ _ _) (congrArg (World.drewN _) (Nat.add_assoc _ _ _))⟩)) | (go_at_call 31; (with_reducible refine (cognateref01_Text.calls kj3 _ _ l2 t123 _ ?side1 ?side2 A21.out).mono ?_); (case side1 => repeat (first | exact (Kd.C_below HR2.out (by repeat (first | (with_reducible first | exact HB.out | apply below_alloc | apply pw_below_drewN | apply below_drew1) | exact HB.out))) | (with_reducible refine Kd.C_alloc ?_ _) | (with_reducible refine Kd.C_drewN ?_ _) | (with_reducible refine Kd.C_drew ?_))); (case side2 => exact HC2.out); rintro e w30 ⟨rfl, hb⟩; have n0_ := Aside0.mk (Kd.R_below (by (with_reducible repeat (first | apply Kd.R_alloc | apply Kd.R_drewN | apply Kd.R_drew)); exact HO117.out) hb); have n1_ := Aside0.mk (Kd.C_below (by repeat (first | (with_reducible exact HR121.out) | (with_reducible refine Kd.C_alloc ?_ _) | (with_reducible refine Kd.C_drewN ?_ _) | (with_reducible refine Kd.C_drew ?_) | exact HR121.out)) hb); have n2_ := Aside0.mk (below_step (by repeat (first | (with_reducible first | exact HB.out | apply below_alloc | apply pw_below_drewN | apply below_drew1) | exact HB.out)) hb); clear HO117; clear HR121; clear HB; have HO117 := n0_; have HR121 := n1_; have HB := n2_; clear n0_ n1_ n2_; (try clear hb); (try clear hb2); (try clear hk); (try clear hi)))
                repeat (go_quiet (first | (go_at_call 27; (with_reducible refine (runes_Quote.calls a0 t102 t103 _ ?side1 ?side2 A12.out).mono ?_); (case side1 => exact TabU.below HTU.out (by repeat (first | (with_reducible first | exact HB.out | apply below_alloc | apply pw_below_drewN | apply below_drew1) | exact HB.out))); (case side2 => exact TabN.below HTN.out (by repeat (first | (with_reducible first | exact HB.out | apply below_alloc | apply pw_below_drewN | apply below_drew1) | exact HB.out))); rintro e w22 ⟨rfl, hb⟩; have n0_ := Aside0.mk (below_step (by repeat (first | (with_reducible first | exact HB.out | apply below_alloc | apply pw_below_drewN | apply below_drew1) | exact HB.out)) hb); clear HB; have HB := n0_; clear n0_; (try clear hb); (try clear hb2); (try clear hk); (try clear hi)) | (go_at_call 28; (with_reducible refine (cognateref01_Quote.calls kj3 a0 t104 t105 _ A13.out).mono ?_); rintro e w23 ⟨rfl, hb⟩; have n0_ := Aside0.mk (below_step (by repeat (first | (with_reducible first | exact HB.out | apply below_alloc | apply pw_below_drewN | apply below_drew1) | exact HB.out)) hb); clear HB; have HB := n0_; clear n0_; (try clear hb); (try clear hb2); (try clear hk); (try clear hi)) | (go_at_call 29; (with_reducible refine (runes_Plain.calls a1 t106 t107 t108 _ ?side1 ?side2 ?side3 A14.out).mono ?_); (case side1 => exact TabU.below HTU.out (by repeat (first | (with_reducible first | exact HB.out | apply below_alloc | apply pw_below_drewN | apply below_drew1) | exact HB.out))); (case side2 => exact TabN.below HTN.out (by repeat (first | (with_reducible first | exact HB.out | apply below_alloc | apply pw_below_drewN | apply below_drew1) | exact HB.out))); (case side3 => exact TabE.below HTE.out (by repeat (first | (with_reducible first | exact HB.out | apply below_alloc | apply pw_below_drewN | apply below_drew1) | exact HB.out))); rintro e w24 ⟨rfl, hb⟩; have n0_ := Aside0.mk (below_step (by repeat (first | (with_reducible first | exact HB.out | apply below_alloc | apply pw_below_drewN | apply below_drew1) | exact HB.out)) hb); clear HB; have HB := n0_; clear n0_; (try clear hb); (try clear hb2); (try clear hk); (try clear hi)) | (go_at_call 30; (with_reducible refine (cognateref01_Plain.calls kj3 a1 t109 t110 t111 _ A15.out).mono ?_); rintro e w25 ⟨rfl, hb⟩; have n0_ := Aside0.mk (below_step (by repeat (first | (with_reducible first | exact HB.out | apply below_alloc | apply pw_below_drewN | apply below_drew1) | exact HB.out)) hb); clear HB; have HB := n0_; clear n0_; (try clear hb); (try clear hb2); (try clear hk); (try clear hi)) | ((with_reducible refine gate_builtin (b := .append) (xs := #[.tmp 64, .tmp 65]) rfl ?_); (try (refine gate_guard (by rfl) ?_; dsimp only)); at_builtin; refine Kd.R_append_rows (Kd.int .i32) (w0 := w) w.heap.size rfl (.tmp 64) (.tmp 65) 39 21 (.int .i32 0) 4 rfl Tryd.underlying39 info21 rfl (by decide) (by omega) (.slice none 0 0) ([] : List Int) l2 _ _ _ (fun _ => True) (fun _ => False) rfl rfl ?aO ?aR (fun _ _ h => h) (fun _ h => h.elim) ?aF ?aB ?aS ?aL ?_; (case aR => repeat (first | exact (Kd.C_below HR2.out HB.out) | (with_reducible refine Kd.C_alloc ?_ _) | (with_reducible refine Kd.C_drewN ?_ _) | (with_reducible refine Kd.C_drew ?_))); (case aB => exact (by repeat (first | (with_reducible first | exact HB.out | apply below_alloc | apply pw_below_drewN | apply below_drew1) | exact HB.out))); (case aF => exact (fun _ _ => trivial)); (case aO => exact ((Kd.R_nil _ _ _ _ (fun _ => True)))); (case aS => exact (below_size (by repeat (first | (with_reducible first | exact HB.out | apply below_alloc | apply pw_below_drewN | apply below_drew1) | exact HB.out)))); (case aL => have := LMc16.out; omega); intro v113 w26 ho hb hg hat; rw [← Ny112.out] at ho; have n0_ := Aside0.mk (hb); have n1_ := Aside0.mk (ho); clear HB; have HB := n0_; have HO114 := n1_; clear n0_ n1_; clear ho hb hg hat) | ((with_reducible refine gate_builtin (b := .append) (xs := #[.tmp 67, .tmp 68]) rfl ?_); (try (refine gate_guard (by rfl) ?_; dsimp only)); at_builtin; refine Kd.R_append (Kd.int .i32) (w0 := w) w.heap.size rfl (.tmp 67) (.tmp 68) 39 21 (.int .i32 0) 4 rfl Tryd.underlying39 info21 rfl (by decide) (by omega) v113 y112 77 [.int .i32 77] (fun _ => True) (fun _ => False) rfl rfl ?aP (fun _ hk => hk.elim) ?aF ?aO ?aB ?aS ?aL ?_; (case aP => exact rfl); (case aB => exact (by repeat (first | (with_reducible first | exact HB.out | apply below_alloc | apply pw_below_drewN | apply below_drew1) | exact HB.out))); (case aF => exact (fun _ _ => trivial)); (case aO => exact (by (with_reducible repeat (first | apply Kd.R_alloc | apply Kd.R_drewN | apply Kd.R_drew)); exact HO114.out)); (case aS => exact (below_size (by repeat (first | (with_reducible first | exact HB.out | apply below_alloc | apply pw_below_drewN | apply below_drew1) | exact HB.out)))); (case aL => have := LMc17.out; omega); intro v116 w27 ho hb hg hat; rw [← Ny115.out] at ho; have n0_ := Aside0.mk (hb); have n1_ := Aside0.mk (ho); clear HB; clear HO114; have HB := n0_; have HO117 := n1_; clear n0_ n1_; clear ho hb hg hat; obtain ⟨Ao29, co29, eo29⟩ := Kd.R_slice HO117.out; subst eo29; have q28 : ((l2.length : Int) : Int) ≤ ((y115.length : Int) : Int) := of_decide_eq_true (by first | (with_reducible assumption) | assumption); obtain ⟨i028, hi028, _, hsz28, _⟩ := info_parts info21; have hroom28 : y115.length ≤ co29 := (Kd.R_reads' HO117.out).2.1; have hC28 : Kd.C (Kd.int .i32) _ Ao29 y115.length y115 := (Kd.R_reads' HO117.out).2.2; have hcut28 := cut_to (P := Tryd.prog) 39 21 .i64 Tryd.underlying39 hi028 Ao29 y115.length co29 (l2.length : Int) (of_decide_eq_true (by first | (with_reducible assumption) | assumption)) q28 hroom28; have hr28 := Kd.C_take (m := ((l2.length : Int) : Int).toNat) hC28 (by omega); have hy28 : y118.length = ((l2.length : Int) : Int).toNat := (by rw [Ny118.out, List.length_take]; omega); rw [← Ny118.out] at hr28; rw [← hy28] at hcut28; have HR121 := Aside0.mk hr28; have HC121 := Aside0.mk (show y118.length ≤ co29 from by omega); clear hr28 hC28 hroom28 hi028 hsz28; have KY28 := Aside0.mk hy28; clear hy28; have KL28 := Aside0.mk (show ((l2.length : Int) : Int).toNat ≤ y115.length from by omega); replace q28 := eq_true q28) | (go_at_call 26; (with_reducible refine (runes_Text.calls _ _ y118 t122 _ ?side1 ?side2 A20.out).mono ?_); (case side1 => repeat (first | exact (by repeat (first | (with_reducible exact HR121.out) | (with_reducible refine Kd.C_alloc ?_ _) | (with_reducible refine Kd.C_drewN ?_ _) | (with_reducible refine Kd.C_drew ?_) | exact HR121.out)) | (with_reducible refine Kd.C_alloc ?_ _) | (with_reducible refine Kd.C_drewN ?_ _) | (with_reducible refine Kd.C_drew ?_))); (case side2 => exact HC121.out); rintro e w' ⟨rfl, ⟨nd, rfl⟩⟩; (try first | exact ⟨rfl, _, World.drewN_drewN _ _ _⟩ | exact ⟨rfl, _, Eq.trans (World.drewN_drewN _ _ _) (congrArg (World.drewN _) (Nat.add_assoc _ _ _))⟩)) | (go_at_call 31; (with_reducible refine (cognateref01_Text.calls kj3 _ _ l2 t123 _ ?side1 ?side2 A21.out).mono ?_); (case side1 => repeat (first | exact (Kd.C_below HR2.out (by repeat (first | (with_reducible first | exact HB.out | apply below_alloc | apply pw_below_drewN | apply below_drew1) | exact HB.out))) | (with_reducible refine Kd.C_alloc ?_ _) | (with_reducible refine Kd.C_drewN ?_ _) | (with_reducible refine Kd.C_drew ?_))); (case side2 => exact HC2.out); rintro e w30 ⟨rfl, hb⟩; have n0_ := Aside0.mk (Kd.R_below (by (with_reducible repeat (first | apply Kd.R_alloc | apply Kd.R_drewN | apply Kd.R_drew)); exact HO117.out) hb); have n1_ := Aside0.mk (Kd.C_below (by repeat (first | (with_reducible exact HR121.out) | (with_reducible refine Kd.C_alloc ?_ _) | (with_reducible refine Kd.C_drewN ?_ _) | (with_reducible refine Kd.C_drew ?_) | exact HR121.out)) hb); have n2_ := Aside0.mk (below_step (by repeat (first | (with_reducible first | exact HB.out | apply below_alloc | apply pw_below_drewN | apply below_drew1) | exact HB.out)) hb); clear HO117; clear HR121; clear HB; have HO117 := n0_; have HR121 := n1_; have HB := n2_; clear n0_ n1_ n2_; (try clear hb); (try clear hb2); (try clear hk); (try clear hi))); try go_wp2_with (first | (go_at_call 27; (with_reducible refine (runes_Quote.calls a0 t102 t103 _ ?side1 ?side2 A12.out).mono ?_); (case side1 => exact TabU.below HTU.out (by repeat (first | (with_reducible first | exact HB.out | apply below_alloc | apply pw_below_drewN | apply below_drew1) | exact HB.out))); (case side2 => exact TabN.below HTN.out (by repeat (first | (with_reducible first | exact HB.out | apply below_alloc | apply pw_below_drewN | apply below_drew1) | exact HB.out))); rintro e w22 ⟨rfl, hb⟩; have n0_ := Aside0.mk (below_step (by repeat (first | (with_reducible first | exact HB.out | apply below_alloc | apply pw_below_drewN | apply below_drew1) | exact HB.out)) hb); clear HB; have HB := n0_; clear n0_; (try clear hb); (try clear hb2); (try clear hk); (try clear hi)) | (go_at_call 28; (with_reducible refine (cognateref01_Quote.calls kj3 a0 t104 t105 _ A13.out).mono ?_); rintro e w23 ⟨rfl, hb⟩; have n0_ := Aside0.mk (below_step (by repeat (first | (with_reducible first | exact HB.out | apply below_alloc | apply pw_below_drewN | apply below_drew1) | exact HB.out)) hb); clear HB; have HB := n0_; clear n0_; (try clear hb); (try clear hb2); (try clear hk); (try clear hi)) | (go_at_call 29; (with_reducible refine (runes_Plain.calls a1 t106 t107 t108 _ ?side1 ?side2 ?side3 A14.out).mono ?_); (case side1 => exact TabU.below HTU.out (by repeat (first | (with_reducible first | exact HB.out | apply below_alloc | apply pw_below_drewN | apply below_drew1) | exact HB.out))); (case side2 => exact TabN.below HTN.out (by repeat (first | (with_reducible first | exact HB.out | apply below_alloc | apply pw_below_drewN | apply below_drew1) | exact HB.out))); (case side3 => exact TabE.below HTE.out (by repeat (first | (with_reducible first | exact HB.out | apply below_alloc | apply pw_below_drewN | apply below_drew1) | exact HB.out))); rintro e w24 ⟨rfl, hb⟩; have n0_ := Aside0.mk (below_step (by repeat (first | (with_reducible first | exact HB.out | apply below_alloc | apply pw_below_drewN | apply below_drew1) | exact HB.out)) hb); clear HB; have HB := n0_; clear n0_; (try clear hb); (try clear hb2); (try clear hk); (try clear hi)) | (go_at_call 30; (with_reducible refine (cognateref01_Plain.calls kj3 a1 t109 t110 t111 _ A15.out).mono ?_); rintro e w25 ⟨rfl, hb⟩; have n0_ := Aside0.mk (below_step (by repeat (first | (with_reducible first | exact HB.out | apply below_alloc | apply pw_below_drewN | apply below_drew1) | exact HB.out)) hb); clear HB; have HB := n0_; clear n0_; (try clear hb); (try clear hb2); (try clear hk); (try clear hi)) | ((with_reducible refine gate_builtin (b := .append) (xs := #[.tmp 64, .tmp 65]) rfl ?_); (try (refine gate_guard (by rfl) ?_; dsimp only)); at_builtin; refine Kd.R_append_rows (Kd.int .i32) (w0 := w) w.heap.size rfl (.tmp 64) (.tmp 65) 39 21 (.int .i32 0) 4 rfl Tryd.underlying39 info21 rfl (by decide) (by omega) (.slice none 0 0) ([] : List Int) l2 _ _ _ (fun _ => True) (fun _ => False) rfl rfl ?aO ?aR (fun _ _ h => h) (fun _ h => h.elim) ?aF ?aB ?aS ?aL ?_; (case aR => repeat (first | exact (Kd.C_below HR2.out HB.out) | (with_reducible refine Kd.C_alloc ?_ _) | (with_reducible refine Kd.C_drewN ?_ _) | (with_reducible refine Kd.C_drew ?_))); (case aB => exact (by repeat (first | (with_reducible first | exact HB.out | apply below_alloc | apply pw_below_drewN | apply below_drew1) | exact HB.out))); (case aF => exact (fun _ _ => trivial)); (case aO => exact ((Kd.R_nil _ _ _ _ (fun _ => True)))); (case aS => exact (below_size (by repeat (first | (with_reducible first | exact HB.out | apply below_alloc | apply pw_below_drewN | apply below_drew1) | exact HB.out)))); (case aL => have := LMc16.out; omega); intro v113 w26 ho hb hg hat; rw [← Ny112.out] at ho; have n0_ := Aside0.mk (hb); have n1_ := Aside0.mk (ho); clear HB; have HB := n0_; have HO114 := n1_; clear n0_ n1_; clear ho hb hg hat) | ((with_reducible refine gate_builtin (b := .append) (xs := #[.tmp 67, .tmp 68]) rfl ?_); (try (refine gate_guard (by rfl) ?_; dsimp only)); at_builtin; refine Kd.R_append (Kd.int .i32) (w0 := w) w.heap.size rfl (.tmp 67) (.tmp 68) 39 21 (.int .i32 0) 4 rfl Tryd.underlying39 info21 rfl (by decide) (by omega) v113 y112 77 [.int .i32 77] (fun _ => True) (fun _ => False) rfl rfl ?aP (fun _ hk => hk.elim) ?aF ?aO ?aB ?aS ?aL ?_; (case aP => exact rfl); (case aB => exact (by repeat (first | (with_reducible first | exact HB.out | apply below_alloc | apply pw_below_drewN | apply below_drew1) | exact HB.out))); (case aF => exact (fun _ _ => trivial)); (case aO => exact (by (with_reducible repeat (first | apply Kd.R_alloc | apply Kd.R_drewN | apply Kd.R_drew)); exact HO114.out)); (case aS => exact (below_size (by repeat (first | (with_reducible first | exact HB.out | apply below_alloc | apply pw_below_drewN | apply below_drew1) | exact HB.out)))); (case aL => have := LMc17.out; omega); intro v116 w27 ho hb hg hat; rw [← Ny115.out] at ho; have n0_ := Aside0.mk (hb); have n1_ := Aside0.mk (ho); clear HB; clear HO114; have HB := n0_; have HO117 := n1_; clear n0_ n1_; clear ho hb hg hat; obtain ⟨Ao29, co29, eo29⟩ := Kd.R_slice HO117.out; subst eo29; have q28 : ((l2.length : Int) : Int) ≤ ((y115.length : Int) : Int) := of_decide_eq_true (by first | (with_reducible assumption) | assumption); obtain ⟨i028, hi028, _, hsz28, _⟩ := info_parts info21; have hroom28 : y115.length ≤ co29 := (Kd.R_reads' HO117.out).2.1; have hC28 : Kd.C (Kd.int .i32) _ Ao29 y115.length y115 := (Kd.R_reads' HO117.out).2.2; have hcut28 := cut_to (P := Tryd.prog) 39 21 .i64 Tryd.underlying39 hi028 Ao29 y115.length co29 (l2.length : Int) (of_decide_eq_true (by first | (with_reducible assumption) | assumption)) q28 hroom28; have hr28 := Kd.C_take (m := ((l2.length : Int) : Int).toNat) hC28 (by omega); have hy28 : y118.length = ((l2.length : Int) : Int).toNat := (by rw [Ny118.out, List.length_take]; omega); rw [← Ny118.out] at hr28; rw [← hy28] at hcut28; have HR121 := Aside0.mk hr28; have HC121 := Aside0.mk (show y118.length ≤ co29 from by omega); clear hr28 hC28 hroom28 hi028 hsz28; have KY28 := Aside0.mk hy28; clear hy28; have KL28 := Aside0.mk (show ((l2.length : Int) : Int).toNat ≤ y115.length from by omega); replace q28 := eq_true q28) | (go_at_call 26; (with_reducible refine (runes_Text.calls _ _ y118 t122 _ ?side1 ?side2 A20.out).mono ?_); (case side1 => repeat (first | exact (by repeat (first | (with_reducible exact HR121.out) | (with_reducible refine Kd.C_alloc ?_ _) | (with_reducible refine Kd.C_drewN ?_ _) | (with_reducible refine Kd.C_drew ?_) | exact HR121.out)) | (with_reducible refine Kd.C_alloc ?_ _) | (with_reducible refine Kd.C_drewN ?_ _) | (with_reducible refine Kd.C_drew ?_))); (case side2 => exact HC121.out); rintro e w' ⟨rfl, ⟨nd, rfl⟩⟩; (try first | exact ⟨rfl, _, World.drewN_drewN _ _ _⟩ | exact ⟨rfl, _, Eq.trans (World.drewN_drewN _ _ _) (congrArg (World.drewN _) (Nat.add_assoc _ _ _))⟩)) | (go_at_call 31; (with_reducible refine (cognateref01_Text.calls kj3 _ _ l2 t123 _ ?side1 ?side2 A21.out).mono ?_); (case side1 => repeat (first | exact (Kd.C_below HR2.out (by repeat (first | (with_reducible first | exact HB.out | apply below_alloc | apply pw_below_drewN | apply below_drew1) | exact HB.out))) | (with_reducible refine Kd.C_alloc ?_ _) | (with_reducible refine Kd.C_drewN ?_ _) | (with_reducible refine Kd.C_drew ?_))); (case side2 => exact HC2.out); rintro e w30 ⟨rfl, hb⟩; have n0_ := Aside0.mk (Kd.R_below (by (with_reducible repeat (first | apply Kd.R_alloc | apply Kd.R_drewN | apply Kd.R_drew)); exact HO117.out) hb); have n1_ := Aside0.mk (Kd.C_below (by repeat (first | (with_reducible exact HR121.out) | (with_reducible refine Kd.C_alloc ?_ _) | (with_reducible refine Kd.C_drewN ?_ _) | (with_reducible refine Kd.C_drew ?_) | exact HR121.out)) hb); have n2_ := Aside0.mk (below_step (by repeat (first | (with_reducible first | exact HB.out | apply below_alloc | apply pw_below_drewN | apply below_drew1) | exact HB.out)) hb); clear HO117; clear HR121; clear HB; have HO117 := n0_; have HR121 := n1_; have HB := n2_; clear n0_ n1_ n2_; (try clear hb); (try clear hb2); (try clear hk); (try clear hi))))
                go_loopg [18, 19] kj3 (fun kq v18 v19 w' => ∃ (x18_2 : Bool) (x19_2 : Int), v18 = .bool x18_2 ∧ v19 = .int .i64 x19_2 ∧ Aside0 (cognatelaw01_RunesQuotes.l0 kq l2 t102 t103 t104 t105 t106 t107 t108 t109 t110 t111 y115 x18_2 x19_2 = some r) ∧ Aside0 (kq ≤ kj3) ∧ Aside0 (Kd.R (Kd.int .i32) 21 w' w.heap.size (fun _ => True) (.slice Ao29 y115.length co29) y115) ∧ Aside0 (Kd.C (Kd.int .i32) w' Ao29 y118.length y118) ∧ Aside0 (Below w.heap.size w w'))
                case atStart => exact ⟨((t122.toList == t123.toList)), (0), (by first | rfl | (simp; done) | (simp [*]; done)), (by first | rfl | (simp; done) | (simp [*]; done)), H', ⟨Nat.le_refl _⟩, ⟨by (with_reducible repeat (first | apply Kd.R_alloc | apply Kd.R_drewN | apply Kd.R_drew)); exact HO117.out⟩, ⟨by repeat (first | (with_reducible exact HR121.out) | (with_reducible refine Kd.C_alloc ?_ _) | (with_reducible refine Kd.C_drewN ?_ _) | (with_reducible refine Kd.C_drew ?_) | exact HR121.out)⟩, ⟨by repeat (first | (with_reducible first | exact HB.out | apply below_alloc | apply pw_below_drewN | apply below_drew1) | exact HB.out)⟩⟩
                case round =>
                  clear H'
                  try clear c1
                  try clear c2
                  try clear p2
                  try clear q2
                  try clear c6
                  try clear c7
                  try clear c7b0
                  try clear c7b1
                  try clear c8
                  try clear c8b0
                  try clear c8b1
                  try clear c9
                  try clear c9b0
                  try clear c9b1
                  try clear c10
                  try clear c10b0
                  try clear c10b1
                  try clear c11
                  try clear c16
                  try clear c17
                  try clear c18
                  try clear c18b0
                  try clear c18b1
                  try clear c19
                  try clear c19b0
                  try clear c19b1
                  try clear q28
                  try clear p2
                  try clear q28
                  obtain ⟨x18_2, x19_2, rfl, rfl, HA, HK2, HO_17, HR121, HB⟩ := hrel
                  cases gk with
                  | zero => exact absurd HA.out (by simp [cognatelaw01_RunesQuotes.l0])
                  | succ k2 =>
                    have H := HA.out
                    clear HA
                    simp only [cognatelaw01_RunesQuotes.l0] at H
                    by_cases c31 : x19_2 < (l2.length : Int)
                    · rw [if_pos c31] at H
                      have c31b0 : decide (x19_2 < (l2.length : Int)) = true := decide_eq_true c31
                      clear c31
                      by_cases c32 : x18_2 = true
                      · subst c32
                        have H1 : (if 0 ≤ x19_2 then (if x19_2 < (y115.length : Int) then (cognatelaw01_RunesQuotes.l0 k2 l2 t102 t103 t104 t105 t106 t107 t108 t109 t110 t111 y115 ((rd y115 x19_2) == (rd l2 x19_2)) (wrap64 (x19_2 + 1))) else (none)) else (none)) = some r := by rw [if_pos rfl] at H; exact H
                        clear H
                        have H := H1
                        clear H1
                        by_cases c33 : 0 ≤ x19_2
                        · rw [if_pos c33] at H
                          have c33b0 : decide (0 ≤ x19_2) = true := decide_eq_true c33
                          clear c33
                          by_cases c34 : x19_2 < (y115.length : Int)
                          · rw [if_pos c34] at H
                            have c34b0 : decide (x19_2 < (y115.length : Int)) = true := decide_eq_true c34
                            clear c34
                            have H' := Aside0.mk H
                            clear H
                            have p124 : 0 ≤ (x19_2 : Int) := of_decide_eq_true (by first | (with_reducible assumption) | assumption)
                            have q124 : x19_2 < (y115.length : Int) := of_decide_eq_true (by first | (with_reducible assumption) | assumption)
                            obtain ⟨ad124, e124, hx124_0⟩ := Kd.at_int (Kd.R_reads' HO_17.out).2.2 x19_2 p124 q124
                            cases e124
                            replace p124 := eq_true p124
                            replace q124 := eq_true q124
                            have p125 : 0 ≤ (x19_2 : Int) := of_decide_eq_true (by first | (with_reducible assumption) | assumption)
                            have q125 : x19_2 < (l2.length : Int) := of_decide_eq_true (by first | (with_reducible assumption) | assumption)
                            obtain ⟨ad125, e125, hx125_0⟩ := Kd.at_int HR2.out x19_2 p125 q125
                            cases e125
                            replace hx125_0 := (HB.out.cell (World.block_lt_of_cell? w _ hx125_0)).trans hx125_0
                            replace p125 := eq_true p125
                            replace q125 := eq_true q125
                            go_wp2
                            repeat (go_quiet (fail); try go_wp2)
                            go_roundg k2
                            case measure => have := HJ3.out; have := HK2.out; omega
                            case rel => exact ⟨(((rd y115 x19_2) == (rd l2 x19_2))), (wrap64 (x19_2 + 1)), (by first | rfl | (simp; done) | (simp [*]; done)), (by first | rfl | (simp; done) | (simp [*]; done)), H', ⟨by have := HJ3.out; have := HK2.out; omega⟩, ⟨by (with_reducible repeat (first | apply Kd.R_alloc | apply Kd.R_drewN | apply Kd.R_drew)); exact HO_17.out⟩, ⟨by repeat (first | (with_reducible exact HR121.out) | (with_reducible refine Kd.C_alloc ?_ _) | (with_reducible refine Kd.C_drewN ?_ _) | (with_reducible refine Kd.C_drew ?_) | exact HR121.out)⟩, ⟨by repeat (first | (with_reducible first | exact HB.out | apply below_alloc | apply pw_below_drewN | apply below_drew1) | exact HB.out)⟩⟩
                          · rw [if_neg c34] at H
                            exact absurd H (by simp)
                        · rw [if_neg c33] at H
                          exact absurd H (by simp)
                      · replace c32 := Bool.eq_false_iff.mpr c32
                        subst c32
                        have H1 : (cognatelaw01_RunesQuotes.l0 k2 l2 t102 t103 t104 t105 t106 t107 t108 t109 t110 t111 y115 false (wrap64 (x19_2 + 1))) = some r := by rw [if_neg (show ¬ (false = true) by decide)] at H; exact H
                        clear H
                        have H := H1
                        clear H1
                        have H' := Aside0.mk H
                        clear H
                        go_wp2
                        repeat (go_quiet (fail); try go_wp2)
                        go_roundg k2
                        case measure => have := HJ3.out; have := HK2.out; omega
                        case rel => exact ⟨(false), (wrap64 (x19_2 + 1)), (by first | rfl | (simp; done) | (simp [*]; done)), (by first | rfl | (simp; done) | (simp [*]; done)), H', ⟨by have := HJ3.out; have := HK2.out; omega⟩, ⟨by (with_reducible repeat (first | apply Kd.R_alloc | apply Kd.R_drewN | apply Kd.R_drew)); exact HO_17.out⟩, ⟨by repeat (first | (with_reducible exact HR121.out) | (with_reducible refine Kd.C_alloc ?_ _) | (with_reducible refine Kd.C_drewN ?_ _) | (with_reducible refine Kd.C_drew ?_) | exact HR121.out)⟩, ⟨by repeat (first | (with_reducible first | exact HB.out | apply below_alloc | apply pw_below_drewN | apply below_drew1) | exact HB.out)⟩⟩
                    · rw [if_neg c31] at H
                      have c31b0 : decide (x19_2 < (l2.length : Int)) = false := decide_eq_false c31
                      clear c31
                      by_cases c35 : x18_2 = true
                      · subst c35
                        have H1 : (if 0 ≤ (l2.length : Int) then (if (l2.length : Int) < (y115.length : Int) then (if (rd y115 (l2.length : Int)) = 77 then (if t102.toList = t104.toList then (if t103 = t105 then (if t106.toList = t109.toList then (if t107 = t110 then (some (t108 == t111)) else (some false)) else (some false)) else (some false)) else (some false)) else (some false)) else (none)) else (none)) = some r := by rw [if_pos rfl] at H; exact H
                        clear H
                        have H := H1
                        clear H1
                        by_cases c36 : 0 ≤ (l2.length : Int)
                        · rw [if_pos c36] at H
                          have c36b0 : decide (0 ≤ (l2.length : Int)) = true := decide_eq_true c36
                          have c36b1 : decide (0 ≤ l2.length) = true := decide_eq_true (by omega)
                          clear c36
                          by_cases c37 : (l2.length : Int) < (y115.length : Int)
                          · rw [if_pos c37] at H
                            have c37b0 : decide ((l2.length : Int) < (y115.length : Int)) = true := decide_eq_true c37
                            have c37b1 : decide (l2.length < y115.length) = true := decide_eq_true (Int.ofNat_lt.mp c37)
                            clear c37
                            by_cases c38 : (rd y115 (l2.length : Int)) = 77
                            · rw [if_pos c38] at H
                              have c38b0 : ((rd y115 (l2.length : Int)) == 77) = true := beq_iff_eq.mpr c38
                              have c38b1 : ((rd y115 (l2.length : Int)) != 77) = false := bne_eq_false_iff_eq.mpr c38
                              clear c38
                              by_cases c39 : t102.toList = t104.toList
                              · rw [if_pos c39] at H
                                have c39b0 : (t102.toList == t104.toList) = true := beq_iff_eq.mpr c39
                                have c39b1 : (t102.toList != t104.toList) = false := bne_eq_false_iff_eq.mpr c39
                                clear c39
                                by_cases c40 : t103 = t105
                                · rw [if_pos c40] at H
                                  have c40b0 : (t103 == t105) = true := beq_iff_eq.mpr c40
                                  have c40b1 : (t103 != t105) = false := bne_eq_false_iff_eq.mpr c40
                                  clear c40
                                  by_cases c41 : t106.toList = t109.toList
                                  · rw [if_pos c41] at H
                                    have c41b0 : (t106.toList == t109.toList) = true := beq_iff_eq.mpr c41
                                    have c41b1 : (t106.toList != t109.toList) = false := bne_eq_false_iff_eq.mpr c41
                                    clear c41
                                    by_cases c42 : t107 = t110
                                    · rw [if_pos c42] at H
                                      have c42b0 : (t107 == t110) = true := beq_iff_eq.mpr c42
                                      have c42b1 : (t107 != t110) = false := bne_eq_false_iff_eq.mpr c42
                                      clear c42
                                      obtain rfl := Option.some.inj H
                                      have p126 : 0 ≤ ((l2.length : Int) : Int) := of_decide_eq_true (by first | (with_reducible assumption) | assumption)
                                      have q126 : (l2.length : Int) < (y115.length : Int) := of_decide_eq_true (by first | (with_reducible assumption) | assumption)
                                      obtain ⟨ad126, e126, hx126_0⟩ := Kd.at_int (Kd.R_reads' HO_17.out).2.2 (l2.length : Int) p126 q126
                                      cases e126
                                      (try simp only [Go.IntWalk.toNatUp] at hx126_0)
                                      replace p126 := eq_true p126
                                      replace q126 := eq_true q126
                                      go_wp2
                                      repeat (go_quiet (fail); try go_wp2)
                                      go_ret
                                      exact ⟨by first | rfl | (simp [errW_none, errW_some] <;> rfl) | (simp [*, errW_none, errW_some] <;> rfl), by repeat (first | (with_reducible first | exact HB.out | apply below_alloc | apply pw_below_drewN | apply below_drew1) | exact HB.out)⟩
                                    · rw [if_neg c42] at H
                                      have c42b0 : (t107 == t110) = false := beq_eq_false_iff_ne.mpr c42
                                      have c42b1 : (t107 != t110) = true := bne_iff_ne.mpr c42
                                      obtain rfl := Option.some.inj H
                                      have p126 : 0 ≤ ((l2.length : Int) : Int) := of_decide_eq_true (by first | (with_reducible assumption) | assumption)
                                      have q126 : (l2.length : Int) < (y115.length : Int) := of_decide_eq_true (by first | (with_reducible assumption) | assumption)
                                      obtain ⟨ad126, e126, hx126_0⟩ := Kd.at_int (Kd.R_reads' HO_17.out).2.2 (l2.length : Int) p126 q126
                                      cases e126
                                      (try simp only [Go.IntWalk.toNatUp] at hx126_0)
                                      replace p126 := eq_true p126
                                      replace q126 := eq_true q126
                                      go_wp2
                                      repeat (go_quiet (fail); try go_wp2)
                                      go_ret
                                      exact ⟨by first | rfl | (simp [errW_none, errW_some] <;> rfl) | (simp [*, errW_none, errW_some] <;> rfl), by repeat (first | (with_reducible first | exact HB.out | apply below_alloc | apply pw_below_drewN | apply below_drew1) | exact HB.out)⟩
                                  · rw [if_neg c41] at H
                                    have c41b0 : (t106.toList == t109.toList) = false := beq_eq_false_iff_ne.mpr c41
                                    have c41b1 : (t106.toList != t109.toList) = true := bne_iff_ne.mpr c41
                                    obtain rfl := Option.some.inj H
                                    have p126 : 0 ≤ ((l2.length : Int) : Int) := of_decide_eq_true (by first | (with_reducible assumption) | assumption)
                                    have q126 : (l2.length : Int) < (y115.length : Int) := of_decide_eq_true (by first | (with_reducible assumption) | assumption)
                                    obtain ⟨ad126, e126, hx126_0⟩ := Kd.at_int (Kd.R_reads' HO_17.out).2.2 (l2.length : Int) p126 q126
                                    cases e126
                                    (try simp only [Go.IntWalk.toNatUp] at hx126_0)
                                    replace p126 := eq_true p126
                                    replace q126 := eq_true q126
                                    go_wp2
                                    repeat (go_quiet (fail); try go_wp2)
                                    go_ret
                                    exact ⟨by first | rfl | (simp [errW_none, errW_some] <;> rfl) | (simp [*, errW_none, errW_some] <;> rfl), by repeat (first | (with_reducible first | exact HB.out | apply below_alloc | apply pw_below_drewN | apply below_drew1) | exact HB.out)⟩
                                · rw [if_neg c40] at H
                                  have c40b0 : (t103 == t105) = false := beq_eq_false_iff_ne.mpr c40
                                  have c40b1 : (t103 != t105) = true := bne_iff_ne.mpr c40
                                  obtain rfl := Option.some.inj H
                                  have p126 : 0 ≤ ((l2.length : Int) : Int) := of_decide_eq_true (by first | (with_reducible assumption) | assumption)
                                  have q126 : (l2.length : Int) < (y115.length : Int) := of_decide_eq_true (by first | (with_reducible assumption) | assumption)
                                  obtain ⟨ad126, e126, hx126_0⟩ := Kd.at_int (Kd.R_reads' HO_17.out).2.2 (l2.length : Int) p126 q126
                                  cases e126
                                  (try simp only [Go.IntWalk.toNatUp] at hx126_0)
                                  replace p126 := eq_true p126
                                  replace q126 := eq_true q126
                                  go_wp2
                                  repeat (go_quiet (fail); try go_wp2)
                                  go_ret
                                  exact ⟨by first | rfl | (simp [errW_none, errW_some] <;> rfl) | (simp [*, errW_none, errW_some] <;> rfl), by repeat (first | (with_reducible first | exact HB.out | apply below_alloc | apply pw_below_drewN | apply below_drew1) | exact HB.out)⟩
                              · rw [if_neg c39] at H
                                have c39b0 : (t102.toList == t104.toList) = false := beq_eq_false_iff_ne.mpr c39
                                have c39b1 : (t102.toList != t104.toList) = true := bne_iff_ne.mpr c39
                                obtain rfl := Option.some.inj H
                                have p126 : 0 ≤ ((l2.length : Int) : Int) := of_decide_eq_true (by first | (with_reducible assumption) | assumption)
                                have q126 : (l2.length : Int) < (y115.length : Int) := of_decide_eq_true (by first | (with_reducible assumption) | assumption)
                                obtain ⟨ad126, e126, hx126_0⟩ := Kd.at_int (Kd.R_reads' HO_17.out).2.2 (l2.length : Int) p126 q126
                                cases e126
                                (try simp only [Go.IntWalk.toNatUp] at hx126_0)
                                replace p126 := eq_true p126
                                replace q126 := eq_true q126
                                go_wp2
                                repeat (go_quiet (fail); try go_wp2)
                                go_ret
                                exact ⟨by first | rfl | (simp [errW_none, errW_some] <;> rfl) | (simp [*, errW_none, errW_some] <;> rfl), by repeat (first | (with_reducible first | exact HB.out | apply below_alloc | apply pw_below_drewN | apply below_drew1) | exact HB.out)⟩
                            · rw [if_neg c38] at H
                              have c38b0 : ((rd y115 (l2.length : Int)) == 77) = false := beq_eq_false_iff_ne.mpr c38
                              have c38b1 : ((rd y115 (l2.length : Int)) != 77) = true := bne_iff_ne.mpr c38
                              obtain rfl := Option.some.inj H
                              have p126 : 0 ≤ ((l2.length : Int) : Int) := of_decide_eq_true (by first | (with_reducible assumption) | assumption)
                              have q126 : (l2.length : Int) < (y115.length : Int) := of_decide_eq_true (by first | (with_reducible assumption) | assumption)
                              obtain ⟨ad126, e126, hx126_0⟩ := Kd.at_int (Kd.R_reads' HO_17.out).2.2 (l2.length : Int) p126 q126
                              cases e126
                              (try simp only [Go.IntWalk.toNatUp] at hx126_0)
                              replace p126 := eq_true p126
                              replace q126 := eq_true q126
                              go_wp2
                              repeat (go_quiet (fail); try go_wp2)
                              go_ret
                              exact ⟨by first | rfl | (simp [errW_none, errW_some] <;> rfl) | (simp [*, errW_none, errW_some] <;> rfl), by repeat (first | (with_reducible first | exact HB.out | apply below_alloc | apply pw_below_drewN | apply below_drew1) | exact HB.out)⟩
                          · rw [if_neg c37] at H
                            exact absurd H (by simp)
                        · rw [if_neg c36] at H
                          exact absurd H (by simp)
                      · replace c35 := Bool.eq_false_iff.mpr c35
                        subst c35
                        have H1 : (some false) = some r := by rw [if_neg (show ¬ (false = true) by decide)] at H; exact H
                        clear H
                        have H := H1
                        clear H1
                        obtain rfl := Option.some.inj H
                        go_wp2
                        repeat (go_quiet (fail); try go_wp2)
                        go_ret
                        exact ⟨by first | rfl | (simp [errW_none, errW_some] <;> rfl) | (simp [*, errW_none, errW_some] <;> rfl), by repeat (first | (with_reducible first | exact HB.out | apply below_alloc | apply pw_below_drewN | apply below_drew1) | exact HB.out)⟩
              · rw [if_neg c19] at H
                exact absurd H (by simp)
            · rw [if_neg c18] at H
              exact absurd H (by simp)
          · rw [if_neg c17] at H
            exact absurd H (by simp)
        · rw [if_neg c16] at H
          exact absurd H (by simp)

/-- THE ONE PURE STATEMENT of cognatelaw01_RunesQuotes: yours. -/
def cognatelaw01_RunesQuotes.Pure : Prop := ∀ (a0 : ByteArray) (a1 : ByteArray) (l2 : List Int), a0.size ≤ 140737488351232 → a1.size ≤ 140737488351232 → l2.length ≤ maxLen → l2.length * 4 ≤ 140737488351232 → (∀ x ∈ l2, (Lit.int .i32 x).wf = true) → ∃ k, cognatelaw01_RunesQuotes.f k a0 a1 l2 = some true
theorem cognatelaw01_RunesQuotes.walk (P : cognatelaw01_RunesQuotes.Pure) (a0 : ByteArray) (a1 : ByteArray) (a2 : Option Addr) (len2 cap2 : Nat) (z2 : List Int) (w : World) (hTU : TabU w) (hTN : TabN w) (hTE : TabE w) (w0 : a0.size ≤ 140737488351232) (w1 : a1.size ≤ 140737488351232) (w2 : (a2 = none ∧ len2 = 0 ∧ cap2 = 0 ∧ z2 = []) ∨ ∃ x, a2 = some x ∧ len2 ≤ cap2 ∧ cap2 ≤ maxLen ∧ z2.length = cap2 ∧ (∀ i, i < z2.length → w.cell? (x.add i) = some (.int .i32 (z2.getD i 0))) ∧ ∀ n ∈ z2, (Lit.int .i32 n).wf = true) (y2 : len2 * 4 ≤ 140737488351232) :
    Calls Tryd.prog 7 #[.string a0, .string a1, .slice a2 len2 cap2] w fun e w' => e = .returned (.bool true) ∧ Below w.heap.size w w' := by
  obtain ⟨l2, rfl, hr2, hm2, hw2, hc2⟩ := ReadsInt.ofRowC w2
  obtain ⟨k, h⟩ := P a0 a1 l2 w0 w1 hm2 y2 hw2
  refine (cognatelaw01_RunesQuotes.calls k a0 a1 _ _ l2 true w hTU hTN hTE (Kd.C_of_reads (d := (0 : Int)) (h1 := fun _ => rfl) hr2) hc2 h).mono ?_
  rintro e w' ⟨rfl, hd⟩
  exact ⟨rfl, hd⟩

end Go.Proofs.YtglaagoblcpggaaDoor.R
end

section
namespace Go.Proofs.YtglaagoblcpggaaDoor.R
open Go.RowKit Go.Proofs.YtglaagoblcpggaaDoorW.PrintWords

theorem tail_eq (c : Int) : cognateref01_tail.f c = some (decide (128 ≤ c ∧ c < 192)) := by
  unfold cognateref01_tail.f
  by_cases h : c ≥ 128
  · rw [if_pos h]; congr 1; simp; omega
  · rw [if_neg h]; congr 1; simp; omega
def isRune (c : Int) : Prop := 0 ≤ c ∧ c ≤ 1114111 ∧ (c < 55296 ∨ 57343 < c)
instance (c : Int) : Decidable (isRune c) := by unfold isRune; infer_instance
theorem Rune_eq (c : Int) : cognateref01_Rune.f c = some (decide (isRune c)) := by
  unfold cognateref01_Rune.f
  by_cases h : c ≥ 0
  · rw [if_pos h]
    by_cases h1 : c ≤ 1114111
    · rw [if_pos h1]
      by_cases h2 : c < 55296
      · rw [if_pos h2]; exact congrArg some (decide_eq_true (by unfold isRune; omega)).symm
      · rw [if_neg h2]; exact congrArg some (decide_eq_decide.2 (by unfold isRune; omega))
    · rw [if_neg h1]; exact congrArg some (decide_eq_false (by unfold isRune; omega)).symm
  · rw [if_neg h]; exact congrArg some (decide_eq_false (by unfold isRune; omega)).symm

theorem At_loop (s : ByteArray) (i : Nat) (hs : s.size ≤ 140737488351232) (k : Nat) (l r : Int) (j : Nat) (x0 x1 x2 : Int) (x3 : Bool) (hl : (j : Int) < l) (hj : j < 4) (hi : i + j < s.size) (hr0 : 0 ≤ r) (hr1 : r ≤ 1114111) :
    cognateref01_At.l0 (k + 1) s i l r j x0 x1 x2 x3 =
      if 128 ≤ (s.get! (i + j)).toNat ∧ (s.get! (i + j)).toNat < 192 then cognateref01_At.l0 k s i l (64 * r + ((s.get! (i + j)).toNat - 128)) ((j + 1 : Nat) : Int) x0 x1 x2 x3 else some (x0, x1, x2, x3) := by
  have hb := get_lt s (i + j)
  have e1 : wrap64 ((i : Int) + (j : Int)) = ((i + j : Nat) : Int) := by rw [w64] <;> omega
  have e2 : wrap64 ((j : Int) + 1) = ((j + 1 : Nat) : Int) := by rw [w64] <;> omega
  simp only [cognateref01_At.l0]
  rw [if_pos hl, e1, e2, if_pos (by omega), if_pos (by omega), bt_get s (i + j) hi, tail_eq, Option.bind_some]
  by_cases h : 128 ≤ (s.get! (i + j)).toNat ∧ (s.get! (i + j)).toNat < 192
  · have h' : (128 : Int) ≤ ((s.get! (i + j)).toNat : Int) ∧ ((s.get! (i + j)).toNat : Int) < 192 := by omega
    rw [if_pos (by simpa using h'), if_pos h]
    congr 1
    unfold wrap32
    omega
  · have h' : ¬ ((128 : Int) ≤ ((s.get! (i + j)).toNat : Int) ∧ ((s.get! (i + j)).toNat : Int) < 192) := by omega
    rw [if_neg (by simpa using h'), if_neg h]

theorem At_last (s : ByteArray) (i : Int) (k : Nat) (l r : Int) (x0 x1 x2 : Int) (x3 : Bool) (m : Int) (hl : l = 2 ∧ m = 128 ∨ l = 3 ∧ m = 2048 ∨ l = 4 ∧ m = 65536) :
    cognateref01_At.l0 (k + 1) s i l r l x0 x1 x2 x3 = if m ≤ r ∧ isRune r then some (r, i, l, false) else some (x0, x1, x2, x3) := by
  simp only [cognateref01_At.l0]
  rw [if_neg (by omega), Option.bind_some, if_pos (by omega), if_pos (by simp; omega), Rune_eq, Option.bind_some]
  have hrd : rd [0, 0, 128, 2048, 65536] l = m := by
    rcases hl with ⟨rfl, rfl⟩ | ⟨rfl, rfl⟩ | ⟨rfl, rfl⟩ <;> rfl
  rw [hrd]
  by_cases h1 : r < m
  · rw [if_pos h1, if_neg (by omega)]
  · rw [if_neg h1]
    by_cases h2 : isRune r
    · rw [if_pos (by simpa using h2), if_pos ⟨by omega, h2⟩]
    · rw [if_neg (by simpa using h2), if_neg (fun h => h2 h.2)]

theorem At_long (s : ByteArray) (i : Nat) (hs : s.size ≤ 140737488351232) (hi : i < s.size) (k : Nat) (l : Nat) (r : Int) (hl : l = 2 ∨ l = 3 ∨ l = 4) :
    cognateref01_At.j2 (k + 8) s i l r = if i + l ≤ s.size then cognateref01_At.l0 (k + 6) s i l r ((1 : Nat) : Int) 65533 i 1 true else some (65533, (i : Int), 1, true) := by
  have e1 : wrap64 ((i : Int) + (l : Int)) = ((i + l : Nat) : Int) := by rw [w64] <;> omega
  rw [cognateref01_At.j2, if_neg (by omega), e1, cognateref01_At.j3]
  by_cases h : i + l ≤ s.size
  · rw [if_pos h, if_neg (by simp; omega)]; rfl
  · rw [if_neg h, if_pos (by simp; omega)]

/-- WHAT At COMPUTES. -/
def AtIs (s : ByteArray) (i : Nat) : Int × Int × Int × Bool := (((dc s i).1 : Int), (i : Int), ((dc s i).2 : Int), decide (dc s i = bad))
theorem AtIs_of {s : ByteArray} {i : Nat} {r n : Nat} (h : dc s i = (r, n)) : AtIs s i = ((r : Int), (i : Int), (n : Int), decide ((r, n) = bad)) := by
  unfold AtIs
  rw [h]

set_option maxHeartbeats 1000000 in
theorem At_eq (s : ByteArray) (i : Nat) (hs : s.size ≤ 140737488351232) (hi : i < s.size) (k : Nat) : cognateref01_At.f (k + 10) s i = some (AtIs s i) := by
  have hN := dc_N s i
  obtain ⟨n, hn⟩ : ∃ n, s.size - i = n := ⟨_, rfl⟩
  obtain ⟨b0, h0⟩ : ∃ b, (s.get! i).toNat = b := ⟨_, rfl⟩
  obtain ⟨b1, h1⟩ : ∃ b, (s.get! (i + 1)).toNat = b := ⟨_, rfl⟩
  obtain ⟨b2, h2⟩ : ∃ b, (s.get! (i + 2)).toNat = b := ⟨_, rfl⟩
  obtain ⟨b3, h3⟩ : ∃ b, (s.get! (i + 3)).toNat = b := ⟨_, rfl⟩
  have g0 := get_lt s i
  have g1 := get_lt s (i + 1)
  have g2 := get_lt s (i + 2)
  have g3 := get_lt s (i + 3)
  rw [hn, h0, h1, h2, h3] at hN
  rw [h0] at g0
  rw [h1] at g1
  rw [h2] at g2
  rw [h3] at g3
  have one_ : dc s i = bad → some ((65533 : Int), (i : Int), (1 : Int), true) = some (AtIs s i) := fun h => by rw [AtIs_of h]; rfl
  unfold cognateref01_At.f
  rw [if_pos (by omega), if_pos (by omega), bt_get s i hi, h0]
  by_cases c1 : b0 < 128
  · rw [if_pos (by omega)]
    have hd : dc s i = (b0, 1) := by rw [hN]; unfold Lib.decodeN; rw [if_pos c1]
    rw [AtIs_of hd, w32 (by omega) (by omega)]
    simp [bad]
    omega
  · rw [if_neg (by omega)]
    by_cases c2 : b0 ≥ 192
    · rw [if_pos (by omega), cognateref01_At.j0]
      by_cases c3 : b0 < 224
      · rw [if_pos (by simp; omega)]
        have e : ((b0 : Int) - 192) % 256 = (b0 - 192 : Nat) := by omega
        rw [e]
        have := At_long s i hs hi (k + 1) 2 ((b0 - 192 : Nat) : Int) (by omega)
        rw [show ((2 : Nat) : Int) = 2 from rfl] at this
        rw [this]
        by_cases c4 : i + 2 ≤ s.size
        · rw [if_pos c4, At_loop s i hs (k + 6) 2 _ 1 _ _ _ _ (by omega) (by omega) (by omega) (by omega) (by omega), h1]
          by_cases c5 : 128 ≤ b1 ∧ b1 < 192
          · rw [if_pos c5, show ((1 + 1 : Nat) : Int) = 2 from rfl, At_last s i (k + 5) 2 _ _ _ _ _ 128 (by omega)]
            by_cases c6 : 128 ≤ 64 * ((b0 - 192 : Nat) : Int) + ((b1 : Int) - 128) ∧ isRune (64 * ((b0 - 192 : Nat) : Int) + ((b1 : Int) - 128))
            · rw [if_pos c6]
              have hd : dc s i = ((b0 - 192) * 64 + (b1 - 128), 2) := by
                rw [hN]
                unfold Lib.decodeN isRune at *
                repeat' split
                all_goals first | (exfalso; omega) | (apply Prod.ext <;> simp only <;> omega)
              rw [AtIs_of hd]
              simp [bad]
              omega
            · rw [if_neg c6]
              refine one_ ?_
              rw [hN]
              unfold Lib.decodeN isRune at *
              repeat' split
              all_goals first | (exfalso; omega) | rfl
          · rw [if_neg c5]
            refine one_ ?_
            rw [hN]
            unfold Lib.decodeN
            repeat' split
            all_goals first | (exfalso; omega) | rfl
        · rw [if_neg c4]
          refine one_ ?_
          rw [hN]
          unfold Lib.decodeN
          repeat' split
          all_goals first | (exfalso; omega) | rfl
      · rw [if_neg (by simp; omega), if_pos (by omega), cognateref01_At.j1]
        by_cases c4 : b0 < 240
        · rw [if_pos (by simp; omega)]
          have e : ((b0 : Int) - 224) % 256 = (b0 - 224 : Nat) := by omega
          rw [e]
          have := At_long s i hs hi k 3 ((b0 - 224 : Nat) : Int) (by omega)
          rw [show ((3 : Nat) : Int) = 3 from rfl] at this
          rw [this]
          by_cases c5 : i + 3 ≤ s.size
          · rw [if_pos c5, At_loop s i hs (k + 5) 3 _ 1 _ _ _ _ (by omega) (by omega) (by omega) (by omega) (by omega), h1]
            by_cases c6 : 128 ≤ b1 ∧ b1 < 192
            · rw [if_pos c6, At_loop s i hs (k + 4) 3 _ (1 + 1) _ _ _ _ (by omega) (by omega) (by omega) (by omega) (by omega), h2]
              by_cases c7 : 128 ≤ b2 ∧ b2 < 192
              · rw [if_pos c7, show ((1 + 1 + 1 : Nat) : Int) = 3 from rfl, At_last s i (k + 3) 3 _ _ _ _ _ 2048 (by omega)]
                by_cases c8 : 2048 ≤ 64 * (64 * ((b0 - 224 : Nat) : Int) + ((b1 : Int) - 128)) + ((b2 : Int) - 128) ∧ isRune (64 * (64 * ((b0 - 224 : Nat) : Int) + ((b1 : Int) - 128)) + ((b2 : Int) - 128))
                · rw [if_pos c8]
                  have hd : dc s i = ((b0 - 224) * 4096 + (b1 - 128) * 64 + (b2 - 128), 3) := by
                    rw [hN]
                    unfold Lib.decodeN isRune at *
                    repeat' split
                    all_goals first | (exfalso; omega) | (apply Prod.ext <;> simp only <;> omega)
                  rw [AtIs_of hd]
                  simp [bad]
                  omega
                · rw [if_neg c8]
                  refine one_ ?_
                  rw [hN]
                  unfold Lib.decodeN isRune at *
                  repeat' split
                  all_goals first | (exfalso; omega) | rfl
              · rw [if_neg c7]
                refine one_ ?_
                rw [hN]
                unfold Lib.decodeN
                repeat' split
                all_goals first | (exfalso; omega) | rfl
            · rw [if_neg c6]
              refine one_ ?_
              rw [hN]
              unfold Lib.decodeN
              repeat' split
              all_goals first | (exfalso; omega) | rfl
          · rw [if_neg c5]
            refine one_ ?_
            rw [hN]
            unfold Lib.decodeN
            repeat' split
            all_goals first | (exfalso; omega) | rfl
        · rw [if_neg (by simp; omega), if_pos (by omega)]
          by_cases c5 : b0 < 248
          · rw [if_pos (by omega)]
            have e : ((b0 : Int) - 240) % 256 = (b0 - 240 : Nat) := by omega
            rw [e]
            have := At_long s i hs hi k 4 ((b0 - 240 : Nat) : Int) (by omega)
            rw [show ((4 : Nat) : Int) = 4 from rfl] at this
            rw [this]
            by_cases c6 : i + 4 ≤ s.size
            · rw [if_pos c6, At_loop s i hs (k + 5) 4 _ 1 _ _ _ _ (by omega) (by omega) (by omega) (by omega) (by omega), h1]
              by_cases c7 : 128 ≤ b1 ∧ b1 < 192
              · rw [if_pos c7, At_loop s i hs (k + 4) 4 _ (1 + 1) _ _ _ _ (by omega) (by omega) (by omega) (by omega) (by omega), h2]
                by_cases c8 : 128 ≤ b2 ∧ b2 < 192
                · rw [if_pos c8, At_loop s i hs (k + 3) 4 _ (1 + 1 + 1) _ _ _ _ (by omega) (by omega) (by omega) (by omega) (by omega), h3]
                  by_cases c9 : 128 ≤ b3 ∧ b3 < 192
                  · rw [if_pos c9, show ((1 + 1 + 1 + 1 : Nat) : Int) = 4 from rfl, At_last s i (k + 2) 4 _ _ _ _ _ 65536 (by omega)]
                    by_cases c10 : 65536 ≤ 64 * (64 * (64 * ((b0 - 240 : Nat) : Int) + ((b1 : Int) - 128)) + ((b2 : Int) - 128)) + ((b3 : Int) - 128) ∧ isRune (64 * (64 * (64 * ((b0 - 240 : Nat) : Int) + ((b1 : Int) - 128)) + ((b2 : Int) - 128)) + ((b3 : Int) - 128))
                    · rw [if_pos c10]
                      have hd : dc s i = ((b0 - 240) * 262144 + (b1 - 128) * 4096 + (b2 - 128) * 64 + (b3 - 128), 4) := by
                        rw [hN]
                        unfold Lib.decodeN isRune at *
                        repeat' split
                        all_goals first | (exfalso; omega) | (apply Prod.ext <;> simp only <;> omega)
                      rw [AtIs_of hd]
                      simp [bad]
                      omega
                    · rw [if_neg c10]
                      refine one_ ?_
                      rw [hN]
                      unfold Lib.decodeN isRune at *
                      repeat' split
                      all_goals first | (exfalso; omega) | rfl
                  · rw [if_neg c9]
                    refine one_ ?_
                    rw [hN]
                    unfold Lib.decodeN
                    repeat' split
                    all_goals first | (exfalso; omega) | rfl
                · rw [if_neg c8]
                  refine one_ ?_
                  rw [hN]
                  unfold Lib.decodeN
                  repeat' split
                  all_goals first | (exfalso; omega) | rfl
              · rw [if_neg c7]
                refine one_ ?_
                rw [hN]
                unfold Lib.decodeN
                repeat' split
                all_goals first | (exfalso; omega) | rfl
            · rw [if_neg c6]
              refine one_ ?_
              rw [hN]
              unfold Lib.decodeN
              repeat' split
              all_goals first | (exfalso; omega) | rfl
          · rw [if_neg (by omega), cognateref01_At.j2, if_pos rfl, cognateref01_At.j3, if_pos rfl]
            refine one_ ?_
            rw [hN]
            unfold Lib.decodeN
            repeat' split
            all_goals first | (exfalso; omega) | rfl
    · rw [if_neg (by omega), cognateref01_At.j0, if_neg (by simp), if_neg (by omega), cognateref01_At.j1, if_neg (by simp), if_neg (by omega), cognateref01_At.j2, if_pos rfl, cognateref01_At.j3, if_pos rfl]
      refine one_ ?_
      rw [hN]
      unfold Lib.decodeN
      repeat' split
      all_goals first | (exfalso; omega) | rfl

theorem All_loop (s : ByteArray) (hs : s.size ≤ 140737488351232) (hs2 : s.size < 4398046511104) (i : Nat) : ∀ (k : Nat) (acc : List S35), i ≤ s.size → acc.length ≤ i → s.size - i + 11 ≤ k → cognateref01_All.l0 k s acc i = some (acc ++ (pos s i).map (piece s)) := by
  refine by_pieces s (P := fun i => ∀ (k : Nat) (acc : List S35), i ≤ s.size → acc.length ≤ i → s.size - i + 11 ≤ k → cognateref01_All.l0 k s acc i = some (acc ++ (pos s i).map (piece s))) ?_ ?_ i
  · intro i h k acc _ _ hk
    obtain ⟨k, rfl⟩ : ∃ m, k = m + 1 := ⟨k - 1, by omega⟩
    simp only [cognateref01_All.l0]
    rw [if_neg (by omega), pos_end s i h]
    simp
  · intro i h ih k acc hi ha hk
    obtain ⟨k, rfl⟩ : ∃ m, k = m + 10 + 1 := ⟨k - 11, by omega⟩
    have hb := dc_bounds s i h
    rw [cognateref01_All.l0]
    rw [if_pos (by omega), At_eq s i hs h k, Option.bind_some, if_pos (by omega)]
    have e : wrap64 ((i : Int) + (AtIs s i).2.2.1) = ((i + (dc s i).2 : Nat) : Int) := by
      show wrap64 ((i : Int) + ((dc s i).2 : Int)) = _
      rw [w64] <;> omega
    rw [e, ih _ _ (by omega) (by simp; omega) (by omega), pos_step s i h]
    simp [piece, AtIs]

theorem All_eq (s : ByteArray) (hs2 : s.size < 4398046511104) (k : Nat) (hk : s.size + 11 ≤ k) : cognateref01_All.f k s = some (pieces s) := by
  unfold cognateref01_All.f
  have := All_loop s (by omega) hs2 0 k [] (by omega) (by simp) (by omega)
  simpa [pieces] using this

end Go.Proofs.YtglaagoblcpggaaDoor.R
end

section
set_option linter.unusedVariables false
set_option linter.unusedSimpArgs false
namespace Go.Proofs.YtglaagoblcpggaaDoor.R
open Go.RowKit Go.Proofs.YtglaagoblcpggaaDoorW.PrintWords

theorem of8 (n : Nat) : (UInt8.ofNat n).toNat = n % 256 := by simp
theorem valid_iff (r : Int) : Utf8.valid r = true ↔ isRune r := by
  unfold Utf8.valid isRune
  simp
  omega
def encB (c : Nat) : List Int := if c < 128 then [((c % 256 : Nat) : Int)] else if c < 2048 then [(((192 + c / 64) % 256 : Nat) : Int), (((128 + c % 64) % 256 : Nat) : Int)]
  else if c < 65536 then [(((224 + c / 4096) % 256 : Nat) : Int), (((128 + c / 64 % 64) % 256 : Nat) : Int), (((128 + c % 64) % 256 : Nat) : Int)]
  else [(((240 + c / 262144) % 256 : Nat) : Int), (((128 + c / 4096 % 64) % 256 : Nat) : Int), (((128 + c / 64 % 64) % 256 : Nat) : Int), (((128 + c % 64) % 256 : Nat) : Int)]
theorem bytes_encode (r : Int) : bytesOf (Utf8.encode r) = encB (if isRune r then r.toNat else 65533) := by
  have hv : (if Utf8.valid r = true then r.toNat else Utf8.runeError) = (if isRune r then r.toNat else 65533) := by
    by_cases h : isRune r
    · rw [if_pos h, if_pos ((valid_iff r).2 h)]
    · rw [if_neg h, if_neg (fun e => h ((valid_iff r).1 e))]; rfl
  unfold Utf8.encode
  simp only
  rw [hv]
  generalize (if isRune r then r.toNat else 65533) = c
  unfold encB bytesOf
  repeat' split
  all_goals first | (exfalso; omega) | simp [of8]
theorem low8 (a : Int) (b x : Nat) (ha : a = (b : Int)) (hb : b ≤ 240) (hx : x < 20000000) : wrap32 (a + (x : Int)) % 256 = (((b + x) % 256 : Nat) : Int) := by
  subst ha
  rw [w32 (by omega) (by omega)]
  omega
theorem one_shape (c : Int) (A B C D E F : Int) (l1 l2 l3 l4 : List Int) (n : Nat) (hc : c = n) (h1 : [c % 256] = l1) (h2 : [A, B] = l2) (h3 : [C, D, B] = l3) (h4 : [E, F, D, B] = l4) :
    (if c < 128 then some [c % 256] else if c < 2048 then some [A, B] else if c < 65536 then some [C, D, B] else some [E, F, D, B]) = some (if n < 128 then l1 else if n < 2048 then l2 else if n < 65536 then l3 else l4) := by
  subst hc h1 h2 h3 h4
  by_cases h1 : n < 128
  · rw [if_pos (by omega), if_pos h1]
  · rw [if_neg (by omega), if_neg h1]
    by_cases h2 : n < 2048
    · rw [if_pos (by omega), if_pos h2]
    · rw [if_neg (by omega), if_neg h2]
      by_cases h3 : n < 65536
      · rw [if_pos (by omega), if_pos h3]
      · rw [if_neg (by omega), if_neg h3]
theorem tdiv_nat (c d : Nat) : Int.tdiv (c : Int) (d : Int) = ((c / d : Nat) : Int) := (Int.ofNat_tdiv c d).symm
theorem tmod_nat (c d : Nat) : Int.tmod (c : Int) (d : Int) = ((c % d : Nat) : Int) := (Int.ofNat_tmod c d).symm
theorem one_j0 (k : Nat) (c : Nat) (h : c < 1114112) : cognateref01_one.j0 (k + 1) (c : Int) = some (encB c) := by
  have ww : ∀ x : Nat, x < 2147483648 → wrap32 (x : Int) = (x : Int) := fun x hx => w32 (by omega) (by omega)
  have q1 : c / 64 < 20000000 := Nat.lt_of_le_of_lt (Nat.div_le_self _ _) (by omega)
  have q2 : c / 4096 < 20000000 := Nat.lt_of_le_of_lt (Nat.div_le_self _ _) (by omega)
  have q3 : c / 262144 < 20000000 := Nat.lt_of_le_of_lt (Nat.div_le_self _ _) (by omega)
  have m1 : ∀ x : Nat, x % 64 < 20000000 := fun x => Nat.lt_trans (Nat.mod_lt _ (by omega)) (by omega)
  rw [cognateref01_one.j0, show (64 : Int) = ((64 : Nat) : Int) from rfl, show (4096 : Int) = ((4096 : Nat) : Int) from rfl, show (262144 : Int) = ((262144 : Nat) : Int) from rfl, tdiv_nat, tdiv_nat, tdiv_nat, ww _ (by omega), ww _ (by omega), ww _ (by omega), tmod_nat, tmod_nat, tmod_nat]
  refine one_shape _ _ _ _ _ _ _ _ _ _ _ c rfl ?_ ?_ ?_ ?_
  · rw [Int.natCast_emod]; rfl
  · rw [low8 192 192 _ rfl (by omega) q1, low8 128 128 _ rfl (by omega) (m1 _)]
  · rw [low8 224 224 _ rfl (by omega) q2, low8 128 128 _ rfl (by omega) (m1 _), low8 128 128 _ rfl (by omega) (m1 _)]
  · rw [low8 240 240 _ rfl (by omega) q3, low8 128 128 _ rfl (by omega) (m1 _), low8 128 128 _ rfl (by omega) (m1 _), low8 128 128 _ rfl (by omega) (m1 _)]
theorem one_eq (k : Nat) (r : Int) : cognateref01_one.f (k + 1) r = some (bytesOf (Utf8.encode r)) := by
  unfold cognateref01_one.f
  rw [Rune_eq, Option.bind_some, bytes_encode]
  by_cases h : isRune r
  · have h' := h
    unfold isRune at h'
    rw [if_pos (by simpa using h), if_pos h]
    have := one_j0 k r.toNat (by omega)
    rwa [show ((r.toNat : Nat) : Int) = r by omega] at this
  · rw [if_neg (by simpa using h), if_neg h]
    exact one_j0 k 65533 (by omega)
theorem bytesOf_append (a b : ByteArray) : bytesOf (a ++ b) = bytesOf a ++ bytesOf b := by simp [bytesOf]
theorem runesBytes_go (l : List Int) : ∀ a : ByteArray, bytesOf (l.foldl (fun r n => r ++ Utf8.encode n) a) = bytesOf a ++ (l.map fun r => bytesOf (Utf8.encode r)).flatten := by
  induction l with
  | nil => intro a; simp
  | cons x l ih => intro a; rw [List.foldl_cons, ih, bytesOf_append]; simp
theorem runesBytes_bytes (l : List Int) : bytesOf (runesBytes l) = (l.map fun r => bytesOf (Utf8.encode r)).flatten := by
  unfold runesBytes
  rw [runesBytes_go]
  rfl
theorem enc_le (r : Int) : (bytesOf (Utf8.encode r)).length ≤ 4 := by rw [bytesOf_length]; exact encode_size_le r
theorem get_drop (t : ByteArray) (i j : Nat) (l : List UInt8) (h : t.data.toList.drop i = l) (x : UInt8) (hj : l[j]? = some x) : t.get! (i + j) = x := by
  have esz : t.size = t.data.size := rfl
  rw [← h, List.getElem?_drop] at hj
  obtain ⟨hlt, hx⟩ := List.getElem?_eq_some_iff.1 hj
  rw [Array.length_toList] at hlt
  rw [get_of_lt t (i + j) (by omega), ← hx]
  simp [ByteArray.getElem_eq_getElem_data]
theorem lenB (b : ByteArray) : b.data.toList.length = b.size := Array.length_toList
/-- A digit as a byte. -/
def dg (k : Nat) : UInt8 := UInt8.ofNat (hexd k).toNat
set_option maxRecDepth 100000 in
theorem dg_facts : ∀ k : Nat, k < 16 → isHexB (dg k) = true ∧ hexv (dg k) = k ∧ (8 ≤ k → 56 ≤ (dg k).toNat) ∧ 48 ≤ (dg k).toNat ∧ (dg k).toNat ≤ 102 ∧ ((dg k).toNat = 48 → k = 0) := by decide
def hexL : Nat → Nat → List UInt8
  | 0, _ => []
  | f + 1, u => if u < 16 then [dg u] else hexL f (u / 16) ++ [dg (u % 16)]
theorem hexL_go : ∀ f u, (hexGo f u).map (fun n => UInt8.ofNat n.toNat) = hexL f u
  | 0, _ => rfl
  | f + 1, u => by
    unfold hexGo hexL
    split
    · rfl
    · rw [List.map_append, hexL_go f (u / 16)]
      rfl
theorem hexS_list (u : Nat) : (hexS u).data.toList = hexL 17 u := hexL_go 17 u
theorem hexL_hex : ∀ f u, ∀ c ∈ hexL f u, isHexB c = true
  | 0, _, c, h => by cases h
  | f + 1, u, c, h => by
    unfold hexL at h
    by_cases g : u < 16
    · rw [if_pos g] at h
      obtain rfl : c = dg u := by simpa using h
      exact (dg_facts u g).1
    · rw [if_neg g] at h
      rcases List.mem_append.1 h with h | h
      · exact hexL_hex f _ c h
      · obtain rfl : c = dg (u % 16) := by simpa using h
        exact (dg_facts _ (Nat.mod_lt _ (by omega))).1
theorem hexM_append (M : Nat) : ∀ (l m : List UInt8) (acc n : Nat), hexM M acc l = some n → hexM M acc (l ++ m) = hexM M n m
  | [], m, acc, n, h => by
    have := Option.some.inj h
    rw [this]; rfl
  | c :: l, m, acc, n, h => by
    rw [hexM] at h
    rw [List.cons_append, hexM]
    by_cases g : M < acc * 16 + hexv c
    · rw [if_pos g] at h; cases h
    · rw [if_neg g] at h ⊢
      exact hexM_append M l m _ n h
theorem hexM_hexL (M : Nat) : ∀ f u, u < 16 ^ f → u ≤ M → 1 ≤ f → hexM M 0 (hexL f u) = some u
  | 0, u, h, _, h1 => by omega
  | f + 1, u, h, hM, _ => by
    unfold hexL
    by_cases g : u < 16
    · rw [if_pos g, hexM, (dg_facts u g).2.1, if_neg (by omega), hexM, Nat.zero_mul, Nat.zero_add]
    · have hm : u % 16 < 16 := Nat.mod_lt _ (by omega)
      have hd : u / 16 < 16 ^ f := by
        rw [Nat.pow_succ] at h
        exact Nat.div_lt_of_lt_mul (by rw [Nat.mul_comm]; exact h)
      have h1 : 1 ≤ f := by
        rcases Nat.eq_zero_or_pos f with e | e
        · subst e; simp at h; omega
        · exact e
      rw [if_neg g, hexM_append M _ _ 0 (u / 16) (hexM_hexL M f (u / 16) hd (by omega) h1), hexM, (dg_facts _ hm).2.1, if_neg (by omega), hexM]
      congr 1
      omega
theorem hexL_first : ∀ f u, 1 ≤ f → u < 16 ^ f → ∃ x r, hexL f u = x :: r ∧ (x.toNat = 48 → u = 0 ∧ r = [])
  | 0, u, h, _ => by omega
  | f + 1, u, _, hu => by
    unfold hexL
    by_cases g : u < 16
    · rw [if_pos g]
      exact ⟨dg u, [], rfl, fun h => ⟨(dg_facts u g).2.2.2.2.2 h, rfl⟩⟩
    · rw [if_neg g]
      have hd : u / 16 < 16 ^ f := by
        rw [Nat.pow_succ] at hu
        exact Nat.div_lt_of_lt_mul (by rw [Nat.mul_comm]; exact hu)
      have h1 : 1 ≤ f := by
        rcases Nat.eq_zero_or_pos f with e | e
        · subst e; simp at hu; omega
        · exact e
      obtain ⟨x, r, e, h⟩ := hexL_first f (u / 16) h1 hd
      exact ⟨x, r ++ [dg (u % 16)], by rw [e]; rfl, fun hx => by have := (h hx).1; omega⟩
/-- A byte that is broken: two digits. -/
theorem hexL_byte (b : Nat) (h1 : 128 ≤ b) (h2 : b < 256) : hexL 17 b = [dg (b / 16), dg (b % 16)] := by
  unfold hexL
  rw [if_neg (by omega)]
  unfold hexL
  rw [if_pos (by omega)]
  rfl
theorem getL (t : ByteArray) (l : List UInt8) (h : t.data.toList = l) (j : Nat) (x : UInt8) (hj : l[j]? = some x) : t.get! j = x := by
  have := get_drop t 0 j l (by rw [List.drop_zero, h]) x hj
  rwa [Nat.zero_add] at this
theorem sizeL (t : ByteArray) (l : List UInt8) (h : t.data.toList = l) : t.size = l.length := by rw [← h, lenB]
theorem extL (t : ByteArray) (l : List UInt8) (h : t.data.toList = l) (a b : Nat) : (t.extract a b).data.toList = (l.drop a).take (b - a) := by rw [← h, Lib.extract_data]
/-- A byte below 128 is a piece by itself. -/
theorem dc_ascii (s : ByteArray) (i : Nat) (h : (s.get! i).toNat < 128) : dc s i = ((s.get! i).toNat, 1) := by
  rw [dc_N]
  unfold Lib.decodeN
  rw [if_pos h]

/-! ### number, sixteen, shown, quote -/
theorem sz1 (b : UInt8) : (⟨#[b]⟩ : ByteArray).size = 1 := rfl
theorem szA (l : List UInt8) : (⟨l.toArray⟩ : ByteArray).size = l.length := rfl
theorem sixteen_eq : ∀ (d : Nat), d < 16 → cognateref01_sixteen.f (d : Int) = some ⟨#[dg d]⟩
  | 0, _ => by kernel_rfl
  | 1, _ => by kernel_rfl
  | 2, _ => by kernel_rfl
  | 3, _ => by kernel_rfl
  | 4, _ => by kernel_rfl
  | 5, _ => by kernel_rfl
  | 6, _ => by kernel_rfl
  | 7, _ => by kernel_rfl
  | 8, _ => by kernel_rfl
  | 9, _ => by kernel_rfl
  | 10, _ => by kernel_rfl
  | 11, _ => by kernel_rfl
  | 12, _ => by kernel_rfl
  | 13, _ => by kernel_rfl
  | 14, _ => by kernel_rfl
  | 15, _ => by kernel_rfl
  | n + 16, h => by omega
theorem hexL_len : ∀ f u, (hexL f u).length ≤ f
  | 0, _ => Nat.le_refl _
  | f + 1, u => by
    unfold hexL
    have := hexL_len f (u / 16)
    split
    · simp
    · simp; omega
theorem pow16_pos {f u : Nat} (h : u < 16 ^ (f + 1)) (g : ¬ u < 16) : u / 16 < 16 ^ f ∧ 1 ≤ f := by
  constructor
  · rw [Nat.pow_succ] at h
    exact Nat.div_lt_of_lt_mul (by rw [Nat.mul_comm]; exact h)
  · rcases Nat.eq_zero_or_pos f with e | e
    · subst e; simp at h; omega
    · exact e
theorem number_eq : ∀ (f n k : Nat), n < 16 ^ f → n < 9000000000000000000 → 1 ≤ f → f ≤ 17 → f ≤ k → cognateref01_number.f k (n : Int) = some ⟨(hexL f n).toArray⟩
  | 0, n, k, _, _, h1, _, _ => by omega
  | f + 1, n, k, h, hn, _, h17, hk => by
    obtain ⟨k, rfl⟩ : ∃ m, k = m + 1 := ⟨k - 1, by omega⟩
    rw [cognateref01_number.f, hexL]
    by_cases g : n < 16
    · rw [if_pos (by omega), sixteen_eq n g, if_pos g]; rfl
    · obtain ⟨hd, h1⟩ := pow16_pos h g
      have hl := hexL_len f (n / 16)
      have e1 : Int.tdiv (n : Int) 16 = ((n / 16 : Nat) : Int) := tdiv_nat n 16
      have e2 : Int.tmod (n : Int) 16 = ((n % 16 : Nat) : Int) := tmod_nat n 16
      rw [if_neg (by omega), if_neg g, e1, w64 (by omega) (by omega), number_eq f (n / 16) k hd (by omega) h1 (by omega) (by omega), Option.bind_some, e2, sixteen_eq _ (Nat.mod_lt _ (by omega)), Option.bind_some,
        if_pos (by rw [szA, sz1]; omega)]
      exact congrArg some (ByteArray.ext (by simp))
theorem cut_one (s : ByteArray) (i : Nat) (h : i < s.size) : s.extract i (i + 1) = ⟨#[s.get! i]⟩ := by
  have esz : s.size = s.data.size := rfl
  refine ByteArray.ext (Array.toList_inj.1 ?_)
  rw [ByteArray.data_extract, Array.toList_extract, List.extract_eq_take_drop, Nat.add_sub_cancel_left, get_of_lt s i h, List.drop_eq_getElem_cons (by rw [Array.length_toList]; omega)]
  show [s.data.toList[i]] = _
  simp [ByteArray.getElem_eq_getElem_data]
theorem hexS_arr (u : Nat) : hexS u = ⟨(hexL 17 u).toArray⟩ := ByteArray.ext (Array.toList_inj.1 (by rw [hexS_list]))
theorem pow17 (r : Nat) (h : r ≤ 1114111) : r < 16 ^ 17 := Nat.lt_of_le_of_lt h (by decide)
/-- What the reference's shown shows. -/
theorem shown_eq (s : ByteArray) (i : Nat) (hi : i < s.size) (hs : s.size ≤ 140737488351232) (k : Nat) (hk : 19 ≤ k) : cognateref01_shown.f k s (piece s i).f0 (piece s i).f1 (piece s i).f2 (piece s i).f3 = some ⟨(shownAt s i).toArray⟩ := by
  obtain ⟨k, rfl⟩ : ∃ m, k = m + 1 := ⟨k - 1, by omega⟩
  have hb8 := get_lt s i
  have hbd := dc_bounds s i hi
  have ht : wrap64 ((i : Int) + 1) = ((i + 1 : Nat) : Int) := by rw [w64] <;> omega
  have hcut := cut_one s i hi
  show cognateref01_shown.f (k + 1) s ((dc s i).1 : Int) (i : Int) ((dc s i).2 : Int) (decide (dc s i = bad)) = _
  unfold cognateref01_shown.f shownAt showP
  rw [if_pos (by omega), if_pos (by omega), bt_get s i hi]
  by_cases hbad : dc s i = bad
  · have hb1 : 128 ≤ (s.get! i).toNat := by
      rcases Nat.lt_or_ge (s.get! i).toNat 128 with g | g
      · have := dc_ascii s i g
        rw [hbad] at this
        have := congrArg Prod.fst this
        simp [bad] at this
        omega
      · exact g
    have e1 : Int.tdiv ((s.get! i).toNat : Int) 16 = (((s.get! i).toNat / 16 : Nat) : Int) := tdiv_nat _ 16
    have e2 : Int.tmod ((s.get! i).toNat : Int) 16 = (((s.get! i).toNat % 16 : Nat) : Int) := tmod_nat _ 16
    rw [decide_eq_true hbad, if_pos rfl, if_pos rfl, w64 (n := ((s.get! i).toNat : Int)) (by omega) (by omega), e1, w64 (by omega) (by omega), sixteen_eq _ (by omega), Option.bind_some, if_pos (by rw [sz1]; omega), e2, sixteen_eq _ (Nat.mod_lt _ (by omega)), Option.bind_some, if_pos (by rw [ByteArray.size_append, sz1, sz1, show (⟨#[92, 120]⟩ : ByteArray).size = 2 from rfl]; omega), hexS_arr, hexL_byte _ hb1 hb8]
    rfl
  · rw [decide_eq_false hbad, if_neg (show ¬ (false = true) by simp), if_neg (show ¬ (false = true) by simp)]
    have j0t : cognateref01_shown.j0 (k + 1) s ((s.get! i).toNat : Int) true ((dc s i).1 : Int) (i : Int) ((dc s i).2 : Int) false = some (⟨#[92]⟩ ++ ⟨#[s.get! i]⟩) := by
      rw [cognateref01_shown.j0, if_pos rfl, if_pos (by omega), ht, if_pos (by omega), if_pos (by omega), Int.toNat_natCast, Int.toNat_natCast, hcut, if_pos (by rw [sz1]; omega)]
    by_cases c1 : (s.get! i).toNat = 34
    · have eb : s.get! i = 34 := UInt8.toNat_inj.1 c1
      rw [if_pos (by omega), j0t, if_pos c1, eb]
    · rw [if_neg (by omega), if_neg c1]
      by_cases c2 : (s.get! i).toNat = 92
      · have eb : s.get! i = 92 := UInt8.toNat_inj.1 c2
        rw [show (((s.get! i).toNat : Int) == 92) = true from beq_iff_eq.2 (by omega), j0t, if_pos c2, eb]
      · rw [show (((s.get! i).toNat : Int) == 92) = false from beq_eq_false_iff_ne.2 (by omega), if_neg c2, cognateref01_shown.j0, if_neg (by simp)]
        have num : ∀ r : Nat, r = (dc s i).1 → cognateref01_number.f k (wrap64 ((dc s i).1 : Int)) = some ⟨(hexL 17 (dc s i).1).toArray⟩ := fun r hr => by
          rw [w64 (by omega) (by omega)]
          exact number_eq 17 _ k (pow17 _ (by omega)) (by omega) (by omega) (by omega) (by omega)
        have hl := hexL_len 17 (dc s i).1
        have fin : (some (⟨(hexL 17 (dc s i).1).toArray⟩ : ByteArray)).bind (fun t104 => if 2 + t104.size ≤ 9223372036854775807 then (if ((⟨#[92, 117]⟩ : ByteArray) ++ t104).size + 1 ≤ 9223372036854775807 then some (((⟨#[92, 117]⟩ : ByteArray) ++ t104) ++ (⟨#[59]⟩ : ByteArray)) else none) else none) = some ⟨((⟨#[92, 117]⟩ ++ hexS (dc s i).1 ++ ⟨#[59]⟩ : ByteArray).data.toList).toArray⟩ := by
          have z : (⟨(hexL 17 (dc s i).1).toArray⟩ : ByteArray).size ≤ 17 := hl
          rw [Option.bind_some, if_pos (by omega), if_pos (by rw [ByteArray.size_append, show (⟨#[92, 117]⟩ : ByteArray).size = 2 from rfl]; omega), hexS_arr]
        by_cases c3 : 32 ≤ (s.get! i).toNat ∧ (s.get! i).toNat < 127
        · rw [if_pos c3, if_pos (by omega), if_pos (by omega), if_pos (by omega), ht, if_pos (by omega), if_pos (by omega), Int.toNat_natCast, Int.toNat_natCast, hcut]
          simp
        · rw [if_neg c3]
          by_cases c4 : ((s.get! i).toNat : Int) ≥ 32
          · rw [if_pos c4, if_neg (by omega), num _ rfl, fin]
          · rw [if_neg c4, num _ rfl, fin]
theorem string_of_bytes' (s : ByteArray) : strOfNums (bytesOf s) = s := by
  unfold strOfNums bytesOf
  cases s with
  | mk d => simp [Function.comp_def]
theorem quote_loop (s : ByteArray) (hs : s.size ≤ 100000) (d : Nat) : ∀ (n k : Nat) (acc : List Int), (pieces s).length - n = d → n ≤ (pieces s).length → acc.length ≤ 1 + 20 * n → d + 20 ≤ k →
    cognateref01_quote.l0 k s acc (pieces s) n = some (strOfNums (acc ++ (((pos s 0).drop n).flatMap fun p => bytesOf ⟨(shownAt s p).toArray⟩) ++ [34])) := by
  have hl := pieces_length s
  have hpl : (pieces s).length = (pos s 0).length := by unfold pieces; rw [List.length_map]
  induction d with
  | zero =>
    intro n k acc hd h1 ha hk
    obtain ⟨k, rfl⟩ : ∃ m, k = m + 1 := ⟨k - 1, by omega⟩
    rw [cognateref01_quote.l0, if_neg (by omega), if_pos (by omega), List.drop_eq_nil_of_le (by omega)]
    simp
  | succ d ih =>
    intro n k acc hd h1 ha hk
    obtain ⟨k, rfl⟩ : ∃ m, k = m + 1 := ⟨k - 1, by omega⟩
    have hn : n < (pos s 0).length := by omega
    have hp := pos_lt s 0 (pos s 0)[n] (List.getElem_mem hn)
    have hrd : rd_T35 (pieces s) (n : Int) = piece s (pos s 0)[n] := rd_at _ n _ (by unfold pieces; rw [List.getElem?_map, List.getElem?_eq_getElem hn]; rfl)
    have hz : (⟨(shownAt s (pos s 0)[n]).toArray⟩ : ByteArray).size ≤ 20 := shownAt_length s _
    rw [cognateref01_quote.l0, if_pos (by omega), if_pos (by omega), hrd, shown_eq s _ hp (by omega) k (by omega), Option.bind_some, if_pos (by omega), w64 (by omega) (by omega)]
    have := ih (n + 1) k (acc ++ bytesOf ⟨(shownAt s (pos s 0)[n]).toArray⟩) (by omega) (by omega) (by rw [List.length_append, bytesOf_length]; omega) (by omega)
    rw [show (((n + 1 : Nat)) : Int) = (n : Int) + 1 by omega] at this
    rw [this, List.drop_eq_getElem_cons hn, List.flatMap_cons, List.append_assoc acc]
theorem quote_bytes (s : ByteArray) : strOfNums ([34] ++ ((pos s 0).flatMap fun p => bytesOf ⟨(shownAt s p).toArray⟩) ++ [34]) = ⟨(34 :: (shownFrom s 0 ++ [34])).toArray⟩ := by
  have e : [34] ++ ((pos s 0).flatMap fun p => bytesOf ⟨(shownAt s p).toArray⟩) ++ [34] = bytesOf ⟨(34 :: (shownFrom s 0 ++ [34])).toArray⟩ := by
    unfold bytesOf shownFrom
    simp [List.map_flatMap]
  rw [e, string_of_bytes']
theorem refquote_eq (s : ByteArray) (hs : s.size ≤ 65536) (k : Nat) (hk : s.size + 40 ≤ k) : cognateref01_quote.f k s = runes_quote.f s := by
  unfold cognateref01_quote.f runes_quote.f
  have hl := pieces_length s
  rw [All_eq s (by omega) k (by omega), Option.bind_some, if_pos (by omega), ← quote_bytes]
  have := quote_loop s (by omega) (pieces s).length 0 k [34] (by omega) (by omega) (by simp) (by omega)
  rw [List.drop_zero] at this
  exact this
end Go.Proofs.YtglaagoblcpggaaDoor.R
end

section
set_option linter.unusedVariables false
set_option linter.unusedSimpArgs false
namespace Go.Proofs.YtglaagoblcpggaaDoor.R
open Go.RowKit Go.Proofs.YtglaagoblcpggaaDoorW.PrintWords

/-! ### thing -/
theorem worth_eq (b : UInt8) (k : Nat) : cognateref01_worth.f (k + 1) (b.toNat : Int) = some (if isHexB b = true then (hexv b : Int) else -1) := by
  have hb := b.toNat_lt
  have hx : isHexB b = true ↔ (48 ≤ b.toNat ∧ b.toNat ≤ 57) ∨ (97 ≤ b.toNat ∧ b.toNat ≤ 102) := by unfold isHexB; simp
  unfold cognateref01_worth.f hexv
  by_cases c1 : 48 ≤ b.toNat
  · rw [if_pos (by omega)]
    by_cases c2 : b.toNat ≤ 57
    · rw [decide_eq_true (show (b.toNat : Int) ≤ 57 by omega), cognateref01_worth.j0, if_pos rfl, if_pos (hx.2 (.inl ⟨c1, c2⟩)), if_pos c2]
      exact congrArg some (by omega)
    · rw [decide_eq_false (show ¬ (b.toNat : Int) ≤ 57 by omega), cognateref01_worth.j0, if_neg (by simp)]
      by_cases c3 : 97 ≤ b.toNat
      · rw [if_pos (by omega)]
        by_cases c4 : b.toNat ≤ 102
        · rw [if_pos (by omega), if_pos (hx.2 (.inr ⟨c3, c4⟩)), if_neg c2]
          exact congrArg some (by omega)
        · rw [if_neg (by omega), if_neg (fun h => by have := hx.1 h; omega)]
      · rw [if_neg (by omega), if_neg (fun h => by have := hx.1 h; omega)]
  · rw [if_neg (by omega), cognateref01_worth.j0, if_neg (by simp), if_neg (by omega), if_neg (fun h => by have := hx.1 h; omega)]
def hv (a : Nat) (l : List UInt8) : Nat := l.foldl (fun a c => a * 16 + hexv c) a
theorem hv_snoc (a : Nat) (l : List UInt8) (c : UInt8) : hv a (l ++ [c]) = hv a l * 16 + hexv c := by simp [hv]
theorem hv_ge : ∀ (l : List UInt8) (a : Nat), a * 16 ^ l.length ≤ hv a l
  | [], a => by simp [hv]
  | c :: l, a => by
    have := hv_ge l (a * 16 + hexv c)
    refine Nat.le_trans ?_ this
    rw [List.length_cons, Nat.pow_succ, Nat.mul_comm (16 ^ l.length), ← Nat.mul_assoc]
    exact Nat.mul_le_mul_right _ (by omega)
theorem hv_lt : ∀ (l : List UInt8) (a : Nat), (∀ c ∈ l, isHexB c = true) → hv a l < (a + 1) * 16 ^ l.length
  | [], a, _ => by simp [hv]
  | c :: l, a, h => by
    have := hv_lt l (a * 16 + hexv c) (fun x hx => h x (.tail _ hx))
    have hc := hexv_lt c (h c (.head _))
    refine Nat.lt_of_lt_of_le this ?_
    rw [List.length_cons, Nat.pow_succ, Nat.mul_comm (16 ^ l.length), ← Nat.mul_assoc]
    exact Nat.mul_le_mul_right _ (by omega)
theorem hexM_hv (M : Nat) : ∀ (l : List UInt8) (a : Nat), a ≤ M → hexM M a l = if hv a l ≤ M then some (hv a l) else none
  | [], a, h => by rw [hexM, if_pos (show hv a [] ≤ M from h)]; rfl
  | c :: l, a, h => by
    have e : hv a (c :: l) = hv (a * 16 + hexv c) l := rfl
    rw [hexM, e]
    by_cases g : M < a * 16 + hexv c
    · have g2 := hv_ge l (a * 16 + hexv c)
      have g3 : 1 ≤ 16 ^ l.length := Nat.one_le_pow _ _ (by omega)
      have g4 : (a * 16 + hexv c) * 1 ≤ (a * 16 + hexv c) * 16 ^ l.length := Nat.mul_le_mul_left _ g3
      rw [if_pos g, if_neg (by omega)]
    · rw [if_neg g, hexM_hv M l _ (by omega)]
set_option maxRecDepth 100000 in
theorem dg_hexv (c : UInt8) (h : isHexB c = true) : dg (hexv c) = c := by
  have : ∀ n : Nat, n < 256 → isHexB (UInt8.ofNat n) = true → dg (hexv (UInt8.ofNat n)) = UInt8.ofNat n := by decide
  have h2 := this c.toNat c.toNat_lt
  simp only [UInt8.ofNat_toNat] at h2
  exact h2 h
theorem hexv_pos (c : UInt8) (h : isHexB c = true) (h0 : c.toNat ≠ 48) : 1 ≤ hexv c := by
  have hx : (48 ≤ c.toNat ∧ c.toNat ≤ 57) ∨ (97 ≤ c.toNat ∧ c.toNat ≤ 102) := by unfold isHexB at h; simpa using h
  unfold hexv
  split <;> omega
/-- Digits without a nought ahead are the number's own. -/
theorem hexL_of : ∀ (n : Nat) (l : List UInt8), l.length = n + 1 → (∀ c ∈ l, isHexB c = true) → (∀ x r, l = x :: r → 1 < l.length → x.toNat ≠ 48) → ∀ f, n + 1 ≤ f → hexL f (hv 0 l) = l
  | 0, l, hl, hx, _, f, hf => by
    obtain ⟨f, rfl⟩ : ∃ m, f = m + 1 := ⟨f - 1, by omega⟩
    match l, hl, hx with
    | [c], _, hx =>
      have hc := hx c (.head _)
      have e : hv 0 [c] = hexv c := by simp [hv]
      rw [e, hexL, if_pos (hexv_lt c hc), dg_hexv c hc]
  | n + 1, l, hl, hx, h0, f, hf => by
    obtain ⟨f, rfl⟩ : ∃ m, f = m + 1 := ⟨f - 1, by omega⟩
    have hne : l ≠ [] := fun e => by rw [e] at hl; simp at hl
    obtain ⟨l', c, rfl⟩ : ∃ l' c, l = l' ++ [c] := ⟨l.dropLast, l.getLast hne, (List.dropLast_concat_getLast hne).symm⟩
    have hl' : l'.length = n + 1 := by simpa using hl
    have hc := hx c (by simp)
    have hx' : ∀ c ∈ l', isHexB c = true := fun c hc => hx c (by simp [hc])
    obtain ⟨x, r, rfl⟩ : ∃ x r, l' = x :: r := by
      cases l' with
      | nil => simp at hl'
      | cons x r => exact ⟨x, r, rfl⟩
    have hx0 := h0 x (r ++ [c]) rfl (by simp)
    have hp := hexv_pos x (hx' x (.head _)) hx0
    have hge := hv_ge r (0 * 16 + hexv x)
    have e2 : hv 0 (x :: r) = hv (0 * 16 + hexv x) r := rfl
    have g3 : 1 ≤ 16 ^ r.length := Nat.one_le_pow _ _ (by omega)
    have g4 : 1 * 1 ≤ (0 * 16 + hexv x) * 16 ^ r.length := Nat.mul_le_mul (by omega) g3
    have hlt := hexv_lt c hc
    rw [hv_snoc, hexL, if_neg (by rw [e2]; omega), show (hv 0 (x :: r) * 16 + hexv c) / 16 = hv 0 (x :: r) by omega, show (hv 0 (x :: r) * 16 + hexv c) % 16 = hexv c by omega, dg_hexv c hc, hexL_of n (x :: r) hl' hx' (fun y q hyq _ => by injection hyq with h1 h2; rw [← h1]; exact hx0) f (by omega)]
theorem hv_take (l : List UInt8) (j : Nat) (c : UInt8) (h : l[j]? = some c) : hv 0 (l.take (j + 1)) = hv 0 (l.take j) * 16 + hexv c := by
  have hj : j < l.length := by
    rcases Nat.lt_or_ge j l.length with g | g
    · exact g
    · rw [List.getElem?_eq_none g] at h; cases h
  rw [List.take_succ_eq_append_getElem hj, hv_snoc]
  rw [List.getElem?_eq_getElem hj] at h
  injection h with h
  rw [h]
/-- The digits behind the second byte, at a place. -/
def digs (s : ByteArray) (i : Nat) : List UInt8 := (s.data.toList.drop (i + 2)).takeWhile isHexB
theorem digs_at (s : ByteArray) (i j : Nat) (h : j < (digs s i).length) : i + 2 + j < s.size ∧ (digs s i)[j]? = some (s.get! (i + 2 + j)) ∧ isHexB (s.get! (i + 2 + j)) = true := by
  have hp : digs s i <+: s.data.toList.drop (i + 2) := List.takeWhile_prefix _
  have e := List.prefix_iff_eq_take.1 hp
  have h1 : (digs s i)[j]? = (s.data.toList.drop (i + 2))[j]? := by
    rw [e, List.getElem?_take, if_pos h]
  have hl := hp.length_le
  rw [List.length_drop, lenB] at hl
  have hg : (digs s i)[j]? = some (digs s i)[j] := List.getElem?_eq_getElem h
  have hb := get_drop s (i + 2) j _ rfl (digs s i)[j] (by rw [← h1, hg])
  refine ⟨by omega, by rw [hg, hb], ?_⟩
  rw [hb]
  exact tw_all isHexB _ _ (List.getElem_mem h)
theorem digs_end (s : ByteArray) (i : Nat) (h : i + 2 + (digs s i).length < s.size) : isHexB (s.get! (i + 2 + (digs s i).length)) = false := by
  have hw : ∀ l : List UInt8, ∀ x, l[(l.takeWhile isHexB).length]? = some x → isHexB x = false := by
    intro l
    induction l with
    | nil => intro x h; cases h
    | cons a l ih =>
      intro x h
      rw [List.takeWhile_cons] at h
      by_cases g : isHexB a = true
      · rw [if_pos g] at h
        exact ih x (by simpa using h)
      · rw [if_neg g] at h
        have : a = x := by simpa using h
        rw [← this]
        simpa using g
  have hl : (digs s i).length < (s.data.toList.drop (i + 2)).length := by rw [List.length_drop, lenB]; omega
  have hx : (s.data.toList.drop (i + 2))[(digs s i).length]? = some (s.data.toList.drop (i + 2))[(digs s i).length] := List.getElem?_eq_getElem hl
  have hb := get_drop s (i + 2) (digs s i).length _ rfl _ hx
  rw [hb]
  exact hw _ _ hx
theorem digs_hex (s : ByteArray) (i : Nat) : ∀ c ∈ digs s i, isHexB c = true := fun c h => tw_all isHexB _ c h
theorem digs_le (s : ByteArray) (i : Nat) (hi : i + 2 ≤ s.size) : i + 2 + (digs s i).length ≤ s.size := by
  have hp : digs s i <+: s.data.toList.drop (i + 2) := List.takeWhile_prefix _
  have hl := hp.length_le
  rw [List.length_drop, lenB] at hl
  omega
theorem val_lt (s : ByteArray) (i j : Nat) (h : j ≤ 7) : hv 0 ((digs s i).take j) < 268435456 := by
  have h1 := hv_lt ((digs s i).take j) 0 (fun c hc => digs_hex s i c (List.mem_of_mem_take hc))
  have h2 : ((digs s i).take j).length ≤ 7 := by rw [List.length_take]; omega
  have h3 : 16 ^ ((digs s i).take j).length ≤ 16 ^ 7 := Nat.pow_le_pow_right (by omega) h2
  omega
theorem thing_loop (s : ByteArray) (i : Nat) (hs : s.size ≤ 1048600) (hi : i + 2 ≤ s.size) (K : Nat) (hK : 3 ≤ K) (m : Nat) (hm : m = min (digs s i).length 7) (d : Nat) : ∀ j, m - j = d → j ≤ m →
    cognateref01_thing.l0 (2 * d + 1 + K) s i ((i + 2 + j : Nat) : Int) ((hv 0 ((digs s i).take j) : Nat) : Int) = cognateref01_thing.j3 K s i ((i + 2 + m : Nat) : Int) ((hv 0 ((digs s i).take m) : Nat) : Int) false := by
  induction d with
  | zero =>
    intro j hd hj
    obtain rfl : j = m := by omega
    rw [show 2 * 0 + 1 + K = K + 1 by omega, cognateref01_thing.l0]
    by_cases h : i + 2 + j < s.size
    · obtain ⟨K, rfl⟩ : ∃ q, K = q + 1 := ⟨K - 1, by omega⟩
      rw [if_pos (by omega), if_pos (by omega), bt_get s _ h, worth_eq, Option.bind_some]
      by_cases hx : isHexB (s.get! (i + 2 + j)) = true
      · have h7 : j = 7 := by
          rcases Nat.lt_or_ge (digs s i).length 8 with g | g
          · have e : j = (digs s i).length := by omega
            have := digs_end s i (by omega)
            rw [← e, hx] at this
            cases this
          · omega
        rw [if_pos hx, if_pos (by omega), w64 (by omega) (by omega), decide_eq_false (by omega)]
      · rw [if_neg hx, if_neg (by omega)]
    · rw [if_neg (by omega)]
  | succ d ih =>
    intro j hd hj
    obtain ⟨h1, h2, h3⟩ := digs_at s i j (by omega)
    have hv1 := hv_take _ j _ h2
    have hl := val_lt s i j (by omega)
    have hx := hexv_lt _ h3
    rw [show 2 * (d + 1) + 1 + K = (2 * d + 1 + K) + 1 + 1 by omega, cognateref01_thing.l0, if_pos (by omega), if_pos (by omega), bt_get s _ h1, worth_eq, Option.bind_some, if_pos h3, if_pos (by omega), w64 (n := ((i + 2 + j : Nat) : Int) - (i : Int)) (by omega) (by omega), decide_eq_true (by omega), cognateref01_thing.j3, if_pos rfl, if_pos (by omega), if_pos (by omega), bt_get s _ h1]
    obtain ⟨K', hK'⟩ : ∃ q, 2 * d + 1 + K = q + 1 := ⟨2 * d + K, by omega⟩
    have := ih (j + 1) (by omega) (by omega)
    rw [hv1] at this
    rw [hK'] at this ⊢
    rw [worth_eq, Option.bind_some, if_pos h3, w64 (n := ((i + 2 + j : Nat) : Int) + 1) (by omega) (by omega), w64 (n := 16 * ((hv 0 ((digs s i).take j) : Nat) : Int)) (by omega) (by omega), w64 (by omega) (by omega), ← this]
    congr 1 <;> omega
theorem digs_tail (s : ByteArray) (i : Nat) : digs s i = ((s.extract i s.size).data.toList.drop 2).takeWhile isHexB := by
  unfold digs
  have esz : s.size = s.data.size := rfl
  rw [ByteArray.data_extract, Array.toList_extract, List.extract_eq_take_drop, List.take_of_length_le (by rw [List.length_drop, Array.length_toList, esz]; omega), List.drop_drop]
theorem six_tail (s : ByteArray) (i : Nat) : sixteens (s.extract i s.size) = (digs s i).length := by rw [digs_tail]; rfl
theorem six_text (s : ByteArray) (i : Nat) : ((s.extract i s.size).extract 2 (2 + sixteens (s.extract i s.size))).data.toList = digs s i := by
  have e : ((s.extract i s.size).extract 2 (2 + sixteens (s.extract i s.size))).data.toList = ((s.extract i s.size).data.toList.drop 2).take (sixteens (s.extract i s.size)) := by
    rw [ByteArray.data_extract, Array.toList_extract, List.extract_eq_take_drop, Nat.add_sub_cancel_left]
  rw [e, digs_tail]
  unfold sixteens
  exact (List.prefix_iff_eq_take.1 (List.takeWhile_prefix isHexB (l := (s.extract i s.size).data.toList.drop 2))).symm
theorem valid_rune (n : Nat) : Lib.validRune (n : Int) = decide (isRune (n : Int)) := by
  unfold Lib.validRune isRune
  refine decide_eq_decide.2 ?_
  omega
theorem head_nought (l : List UInt8) (t : ByteArray) (ht : l[0]? = some (t.get! 2) ∨ l = []) : (∀ x r, l = x :: r → 1 < l.length → x.toNat ≠ 48) ↔ ¬ ((t.get! 2).toNat = 48 ∧ 1 < l.length) := by
  cases l with
  | nil => simp
  | cons a l =>
    have e : a = t.get! 2 := by rcases ht with h | h; simpa using h; cases h
    constructor
    · intro h g; exact h a l rfl g.2 (by rw [e]; exact g.1)
    · intro h x r hx hl e2
      injection hx with h1 h2
      exact h ⟨by rw [← e, h1]; exact e2, hl⟩
theorem prefix_one (l : List UInt8) (c : UInt8) : Lib.hasPrefix l [c] = decide (l[0]? = some c) := by
  cases l with
  | nil => simp [Lib.hasPrefix]
  | cons a l =>
    show (c == a && List.isPrefixOf [] l) = _
    by_cases e : c = a
    · subst e; simp
    · simp [e, Ne.symm e]
theorem byte59 (b : UInt8) : (some b = some 59) ↔ b.toNat = 59 := ⟨fun h => by injection h with h; rw [h]; rfl, fun h => congrArg some (UInt8.toNat_inj.1 h)⟩
theorem drop_at (s : ByteArray) (p j : Nat) (h : p + j < s.size) : (s.data.toList.drop p)[j]? = some (s.get! (p + j)) := by
  rw [List.getElem?_drop, get_of_lt s _ h, List.getElem?_eq_getElem (by rw [lenB]; exact h)]
  congr 1
set_option maxHeartbeats 4000000 in
/-- What the loop of the reference leaves, told of the digits. -/
theorem thing_u (s : ByteArray) (i : Nat) (hs : s.size ≤ 1048600) (hi : i + 2 ≤ s.size) (k : Nat) (hk : 40 ≤ k) :
    cognateref01_thing.l0 k s i ((i + 2 : Nat) : Int) 0 = some (bytesOf (thingU (s.extract i s.size) (sixteens (s.extract i s.size))).1, ((thingU (s.extract i s.size) (sixteens (s.extract i s.size))).2 : Int)) := by
  have hle := digs_le s i hi
  have h0 := thing_loop s i hs hi (k - 2 * (min (digs s i).length 7) - 1) (by omega) _ rfl (min (digs s i).length 7) 0 (by omega) (Nat.zero_le _)
  rw [show 2 * (min (digs s i).length 7) + 1 + (k - 2 * (min (digs s i).length 7) - 1) = k by omega] at h0
  have e0 : hv 0 ((digs s i).take 0) = 0 := rfl
  rw [e0] at h0
  have h0' : cognateref01_thing.l0 k s i ((i + 2 : Nat) : Int) 0 = _ := h0
  rw [h0']
  clear h0 h0' e0
  obtain ⟨K, hK⟩ : ∃ K, k - 2 * (min (digs s i).length 7) - 1 = K + 2 := ⟨k - 2 * (min (digs s i).length 7) - 3, by omega⟩
  rw [hK]
  have hKK : 20 ≤ K := by omega
  clear hK
  -- the program's side
  have htx := six_text s i
  have hsz : ((s.extract i s.size).extract 2 (2 + sixteens (s.extract i s.size))).size = (digs s i).length := by rw [← lenB, htx]
  have hg2 : (((s.extract i s.size).get! 2).toNat) = (s.get! (i + 2)).toNat := get_tail_any s i 2
  have hrest : ((s.extract i s.size).extract (2 + sixteens (s.extract i s.size)) (s.extract i s.size).size).data.toList[0]? = if i + 2 + (digs s i).length < s.size then some (s.get! (i + 2 + (digs s i).length)) else none := by
    rw [six_tail, tail_tail s i (2 + (digs s i).length) (by omega)]
    have e := Lib.extract_data s (i + (2 + (digs s i).length)) s.size
    rw [e]
    by_cases g : i + 2 + (digs s i).length < s.size
    · rw [if_pos g, List.getElem?_take, if_pos (by omega)]
      rw [show i + (2 + (digs s i).length) = i + 2 + (digs s i).length by omega]
      exact drop_at s (i + 2 + (digs s i).length) 0 (by omega)
    · rw [if_neg g, List.getElem?_take]
      split
      · rw [List.getElem?_eq_none (by rw [List.length_drop, lenB]; omega)]
      · rfl
  have hpre : Lib.hasPrefix ((s.extract i s.size).extract (2 + sixteens (s.extract i s.size)) (s.extract i s.size).size).data.toList [59] = decide (i + 2 + (digs s i).length < s.size ∧ (s.get! (i + 2 + (digs s i).length)).toNat = 59) := by
    rw [prefix_one, hrest]
    refine decide_eq_decide.2 ?_
    by_cases g : i + 2 + (digs s i).length < s.size
    · rw [if_pos g, byte59]
      exact ⟨fun h => ⟨g, h⟩, fun h => h.2⟩
    · rw [if_neg g]
      exact ⟨fun h => (by cases h), fun h => absurd h.1 g⟩
  have hfirst : ∀ x, (digs s i)[0]? = some x → x = (s.extract i s.size).get! 2 := by
    intro x hx
    have hl : 0 < (digs s i).length := by
      rcases Nat.eq_zero_or_pos (digs s i).length with g | g
      · rw [List.getElem?_eq_none (by omega)] at hx; cases hx
      · exact g
    obtain ⟨_, h2, _⟩ := digs_at s i 0 hl
    have e : s.get! (i + 2) = x := Option.some.inj (h2.symm.trans hx)
    subst e
    exact UInt8.toNat_inj.1 hg2.symm
  have hhead := head_nought (digs s i) (s.extract i s.size) (by
    cases e : digs s i with
    | nil => exact .inr rfl
    | cons a l => exact .inl (by rw [← hfirst a (by rw [e]; rfl)]; rfl))
  unfold thingU
  rw [hsz, htx, hpre, hg2, six_tail]
  rw [hg2] at hhead
  have hm := hexM_hv 4294967295 (digs s i) 0 (by omega)
  have nothing : ∀ x : Int, cognateref01_thing.j4 (K + 1) i x ((hv 0 ((digs s i).take (min (digs s i).length 7)) : Nat) : Int) true = some ([], 0) := fun x => by rw [cognateref01_thing.j4, if_pos rfl]
  rw [cognateref01_thing.j3, if_neg (by simp), w64 (n := (i : Int) + 2) (by omega) (by omega)]
  by_cases c0 : (digs s i).length = 0
  · rw [if_pos (by omega), nothing, if_pos c0]; rfl
  · rw [if_neg (by omega), if_neg c0, hm]
    by_cases c8 : 8 ≤ (digs s i).length
    · -- too many digits: both refuse
      obtain ⟨q1, q2, q3⟩ := digs_at s i 7 (by omega)
      have hx59 : (s.get! (i + 2 + 7)).toNat ≠ 59 := by
        have hx : (48 ≤ (s.get! (i + 2 + 7)).toNat ∧ (s.get! (i + 2 + 7)).toNat ≤ 57) ∨ (97 ≤ (s.get! (i + 2 + 7)).toNat ∧ (s.get! (i + 2 + 7)).toNat ≤ 102) := by unfold isHexB at q3; simpa using q3
        omega
      rw [show min (digs s i).length 7 = 7 by omega] at nothing ⊢
      rw [if_neg (by omega), if_pos (by omega), if_pos (by omega), bt_get s _ q1, if_neg (by omega), nothing]
      by_cases cm : hv 0 (digs s i) ≤ 4294967295
      · rw [if_pos cm]
        simp only
        rw [if_pos]
        · rfl
        · by_cases z : (s.get! (i + 2)).toNat = 48
          · exact .inr (.inr (.inr (.inl ⟨z, by omega⟩)))
          · left
            have hx' : ∃ x r, digs s i = x :: r := by
              cases e : digs s i with
              | nil => rw [e] at c0; simp at c0
              | cons x r => exact ⟨x, r, rfl⟩
            obtain ⟨x, r, hxr⟩ := hx'
            have hh := hfirst x (by rw [hxr]; rfl)
            have hp := hexv_pos x (digs_hex s i x (by rw [hxr]; exact .head _)) (by rw [hh, hg2]; exact z)
            have hge := hv_ge r (0 * 16 + hexv x)
            have e2 : hv 0 (digs s i) = hv (0 * 16 + hexv x) r := by rw [hxr]; rfl
            have hrl : 7 ≤ r.length := by rw [hxr, List.length_cons] at c8; omega
            have g3 : 16 ^ 7 ≤ 16 ^ r.length := Nat.pow_le_pow_right (by omega) hrl
            have g4 : 1 * 16 ^ 7 ≤ (0 * 16 + hexv x) * 16 ^ r.length := Nat.mul_le_mul (by omega) g3
            omega
      · rw [if_neg cm]; rfl
    · -- at most seven digits
      have hv7 := val_lt s i 7 (by omega)
      rw [List.take_of_length_le (by omega)] at hv7
      have hmin : min (digs s i).length 7 = (digs s i).length := by omega
      rw [hmin] at nothing ⊢
      rw [List.take_of_length_le (Nat.le_refl _)] at nothing ⊢
      rw [if_pos (show hv 0 (digs s i) ≤ 4294967295 by omega)]
      simp only
      by_cases c1 : i + 2 + (digs s i).length < s.size
      · rw [if_neg (by omega), if_pos (by omega), if_pos (by omega), bt_get s _ c1]
        by_cases c2 : (s.get! (i + 2 + (digs s i).length)).toNat = 59
        · rw [if_pos (by omega), decide_eq_true (show _ ∧ _ from ⟨c1, c2⟩)]
          by_cases c3 : 1114111 < hv 0 (digs s i)
          · rw [if_pos (by omega), nothing, if_pos (.inl c3)]; rfl
          · rw [if_neg (by omega), w32 (by omega) (by omega), Rune_eq, Option.bind_some, valid_rune]
            by_cases c4 : isRune ((hv 0 (digs s i) : Nat) : Int)
            · have hnum := number_eq 17 (hv 0 (digs s i)) (K + 1) (pow17 _ (by omega)) (by omega) (by omega) (by omega) (by omega)
              rw [decide_eq_true c4, if_pos rfl, hnum, Option.bind_some, if_pos (by omega), if_pos (by omega), if_pos (by omega), Int.toNat_natCast, show ((i : Int) + 2).toNat = i + 2 by omega]
              have hcut : (s.extract (i + 2) (i + 2 + (digs s i).length)).toList = digs s i := by
                rw [Lib.toList_data, Lib.extract_data, Nat.add_sub_cancel_left]
                exact (List.prefix_iff_eq_take.1 (List.takeWhile_prefix isHexB (l := s.data.toList.drop (i + 2)))).symm
              have hnl : (⟨(hexL 17 (hv 0 (digs s i))).toArray⟩ : ByteArray).toList = hexL 17 (hv 0 (digs s i)) := by rw [Lib.toList_data]
              rw [hcut, hnl]
              obtain ⟨n, hn⟩ : ∃ n, (digs s i).length = n + 1 := ⟨(digs s i).length - 1, by omega⟩
              by_cases c5 : (s.get! (i + 2)).toNat = 48 ∧ 1 < (digs s i).length
              · have hne : ¬ hexL 17 (hv 0 (digs s i)) = digs s i := by
                  intro e
                  obtain ⟨x, r, hx, hx0⟩ := hexL_first 17 (hv 0 (digs s i)) (by omega) (pow17 _ (by omega))
                  rw [e] at hx
                  have hh := hfirst x (by rw [hx]; rfl)
                  have := (hx0 (by rw [hh, hg2]; exact c5.1)).2
                  rw [hx, this] at c5
                  simp at c5
                rw [if_neg hne, nothing, if_pos (.inr (.inr (.inr (.inl c5))))]; rfl
              · have heq : hexL 17 (hv 0 (digs s i)) = digs s i := hexL_of n (digs s i) hn (digs_hex s i) (hhead.2 c5) 17 (by omega)
                rw [if_pos heq]
                have fin : ∀ (b : Bool), b = decide (32 ≤ hv 0 (digs s i) ∧ hv 0 (digs s i) ≤ 126) → cognateref01_thing.j4 (K + 1) i ((i + 2 + (digs s i).length : Nat) : Int) ((hv 0 (digs s i) : Nat) : Int) b = some (bytesOf (if 1114111 < hv 0 (digs s i) ∨ true = false ∨ (32 ≤ hv 0 (digs s i) ∧ hv 0 (digs s i) ≤ 126) ∨ ((s.get! (i + 2)).toNat = 48 ∧ 1 < (digs s i).length) ∨ true = false then (⟨#[]⟩, 0) else (Utf8.encode ((hv 0 (digs s i) : Nat) : Int), (digs s i).length + 3) : ByteArray × Nat).1, (((if 1114111 < hv 0 (digs s i) ∨ true = false ∨ (32 ≤ hv 0 (digs s i) ∧ hv 0 (digs s i) ≤ 126) ∨ ((s.get! (i + 2)).toNat = 48 ∧ 1 < (digs s i).length) ∨ true = false then (⟨#[]⟩, 0) else (Utf8.encode ((hv 0 (digs s i) : Nat) : Int), (digs s i).length + 3) : ByteArray × Nat).2 : Nat) : Int)) := by
                  intro b hb
                  by_cases c6 : 32 ≤ hv 0 (digs s i) ∧ hv 0 (digs s i) ≤ 126
                  · rw [hb, decide_eq_true c6, nothing, if_pos (.inr (.inr (.inl c6)))]; rfl
                  · rw [hb, decide_eq_false c6, cognateref01_thing.j4, if_neg (by simp), if_neg (by simp only [reduceCtorEq, false_or, or_false]; omega), w32 (by omega) (by omega)]
                    obtain ⟨K', rfl⟩ : ∃ q, K = q + 1 := ⟨K - 1, by omega⟩
                    rw [one_eq, Option.bind_some, w64 (n := ((i + 2 + (digs s i).length : Nat) : Int) + 1) (by omega) (by omega), w64 (by omega) (by omega)]
                    simp only [Option.some.injEq, Prod.mk.injEq, true_and]
                    omega
                by_cases c7 : ((hv 0 (digs s i) : Nat) : Int) ≥ 32
                · rw [if_pos c7]
                  exact fin _ (decide_eq_decide.2 (by omega))
                · rw [if_neg c7]
                  exact fin _ (decide_eq_false (by omega)).symm
            · rw [decide_eq_false c4, if_neg (by simp), nothing, if_pos (.inr (.inl rfl))]; rfl
        · rw [if_neg (by omega), nothing, decide_eq_false (fun h => c2 h.2), if_pos (.inr (.inr (.inr (.inr rfl))))]; rfl
      · rw [if_pos (by omega), nothing, decide_eq_false (fun h => c1 h.1), if_pos (.inr (.inr (.inr (.inr rfl))))]; rfl
set_option maxHeartbeats 4000000 in
/-- WHAT THE REFERENCE'S thing COMPUTES, at a place that is no quote. -/
theorem thing_eq (s : ByteArray) (i : Nat) (hs : s.size ≤ 1048600) (hi : i < s.size) (hq : (s.get! i).toNat ≠ 34) (k : Nat) (hk : 42 ≤ k) :
    cognateref01_thing.f k s (i : Int) = some (bytesOf (thingP (s.extract i s.size)).1, ((thingP (s.extract i s.size)).2 : Int)) := by
  obtain ⟨k, rfl⟩ : ∃ m, k = m + 1 := ⟨k - 1, by omega⟩
  have hb0 := get_lt s i
  have sz := sz_tail s i
  have g0 : ((s.extract i s.size).get! 0).toNat = (s.get! i).toNat := get_tail_any s i 0
  have g1 : ((s.extract i s.size).get! 1).toNat = (s.get! (i + 1)).toNat := get_tail_any s i 1
  have g2 : ((s.extract i s.size).get! 2).toNat = (s.get! (i + 2)).toNat := get_tail_any s i 2
  have one : ∀ j : Nat, j < (s.extract i s.size).size → bytesOf ((s.extract i s.size).extract j (j + 1)) = [(((s.extract i s.size).get! j).toNat : Int)] := fun j hj => by rw [cut_one _ j hj]; rfl
  unfold cognateref01_thing.f thingP
  rw [if_pos (by omega), if_pos (by omega), bt_get s i hi, g0, g1, g2, sz]
  by_cases c0 : (s.get! i).toNat = 92
  · rw [if_pos (by omega), if_neg (show ¬ ((s.get! i).toNat ≠ 92) from fun h => h c0), w64 (n := (i : Int) + 1) (by omega) (by omega)]
    by_cases c1 : s.size - i < 2
    · rw [if_pos (by omega), if_pos c1]; rfl
    · have h1 : i + 1 < s.size := by omega
      have b1 : bt s ((i : Int) + 1) = ((s.get! (i + 1)).toNat : Int) := bt_get s (i + 1) h1
      rw [if_neg (by omega), if_neg c1, if_pos (by omega), if_pos (by omega), b1]
      have esc : cognateref01_thing.j0 (k + 1) s i ((s.get! (i + 1)).toNat : Int) true = some (bytesOf ((s.extract i s.size).extract 1 2), 2) := by
        rw [cognateref01_thing.j0, if_pos rfl, w64 (by omega) (by omega), if_pos (by omega), if_pos (by omega), b1, one 1 (by omega), g1]
      by_cases c2 : (s.get! (i + 1)).toNat = 34 ∨ (s.get! (i + 1)).toNat = 92
      · have : ∀ b : Bool, b = true → cognateref01_thing.j0 (k + 1) s i ((s.get! (i + 1)).toNat : Int) b = some (bytesOf ((s.extract i s.size).extract 1 2), 2) := fun b hb => by rw [hb, esc]
        rw [if_pos c2]
        split
        · exact this _ (beq_iff_eq.2 (by omega))
        · exact this _ (beq_iff_eq.2 (by omega))
      · rw [if_neg c2, if_neg (by omega), show (((s.get! (i + 1)).toNat : Int) == 92) = false from beq_eq_false_iff_ne.2 (by omega), cognateref01_thing.j0, if_neg (by simp)]
        by_cases c3 : (s.get! (i + 1)).toNat = 120
        · have none1 : cognateref01_thing.j1 k s i false = some ([], 0) := by
            obtain ⟨k, rfl⟩ : ∃ m, k = m + 1 := ⟨k - 1, by omega⟩
            rw [cognateref01_thing.j1, if_neg (by simp)]
          have hle := digs_le s i (by omega)
          rw [if_pos (by omega), if_pos c3, six_tail, w64 (n := (i : Int) + 3) (by omega) (by omega)]
          by_cases c4 : i + 3 < s.size
          · have b2 : bt s ((i : Int) + 2) = ((s.get! (i + 2)).toNat : Int) := bt_get s (i + 2) (by omega)
            have b3 : bt s ((i : Int) + 3) = ((s.get! (i + 3)).toNat : Int) := bt_get s (i + 3) c4
            obtain ⟨k, rfl⟩ : ∃ m, k = m + 1 + 1 := ⟨k - 2, by omega⟩
            rw [if_pos (by omega), w64 (n := (i : Int) + 2) (by omega) (by omega), if_pos (by omega), if_pos (by omega), b2, worth_eq, Option.bind_some]
            have hx2 : isHexB (s.get! (i + 2)) = true ↔ 1 ≤ (digs s i).length := by
              constructor
              · intro h
                rcases Nat.eq_zero_or_pos (digs s i).length with g | g
                · have := digs_end s i (by omega)
                  rw [g] at this
                  rw [show i + 2 + 0 = i + 2 from rfl, h] at this
                  cases this
                · exact g
              · intro h; exact (digs_at s i 0 h).2.2
            by_cases c5 : isHexB (s.get! (i + 2)) = true
            · have w2 := hexv_lt _ c5
              have hv8 : 8 ≤ hexv (s.get! (i + 2)) ↔ 56 ≤ (s.get! (i + 2)).toNat := by
                have hx : (48 ≤ (s.get! (i + 2)).toNat ∧ (s.get! (i + 2)).toNat ≤ 57) ∨ (97 ≤ (s.get! (i + 2)).toNat ∧ (s.get! (i + 2)).toNat ≤ 102) := by unfold isHexB at c5; simpa using c5
                unfold hexv
                split <;> omega
              rw [if_pos c5]
              by_cases c6 : 8 ≤ hexv (s.get! (i + 2))
              · rw [if_pos (by omega), if_pos (by omega), b3, worth_eq, Option.bind_some]
                have hx3 : isHexB (s.get! (i + 3)) = true ↔ 2 ≤ (digs s i).length := by
                  constructor
                  · intro h
                    rcases Nat.lt_or_ge (digs s i).length 2 with g | g
                    · have g1 := hx2.1 c5
                      have g3 : (digs s i).length = 1 := by omega
                      have := digs_end s i (by omega)
                      rw [g3] at this
                      rw [show i + 2 + 1 = i + 3 from rfl, h] at this
                      cases this
                    · exact g
                  · intro h; exact (digs_at s i 1 h).2.2
                by_cases c7 : isHexB (s.get! (i + 3)) = true
                · have w3 := hexv_lt _ c7
                  have l2 := hx3.1 c7
                  have htx : ((s.extract i s.size).extract 2 4).data.toList = [s.get! (i + 2), s.get! (i + 3)] := by
                    rw [Lib.extract_data, Lib.extract_data, List.take_of_length_le (l := s.data.toList.drop i) (by rw [List.length_drop, lenB]; omega), List.drop_drop]
                    have q2 : (s.data.toList.drop (i + 2))[0]? = some (s.get! (i + 2)) := by
                      exact drop_at s (i + 2) 0 (by omega)
                    have q3 : (s.data.toList.drop (i + 2))[1]? = some (s.get! (i + 3)) := by
                      exact drop_at s (i + 2) 1 (by omega)
                    revert q2 q3
                    cases s.data.toList.drop (i + 2) with
                    | nil => intro h; cases h
                    | cons a l =>
                      cases l with
                      | nil => intro _ h; cases h
                      | cons b l =>
                        intro h1 h2
                        have h1' : a = s.get! (i + 2) := by simpa using h1
                        have h2' : b = s.get! (i + 3) := by simpa using h2
                        rw [h1', h2']
                        rfl
                  rw [if_pos c7, decide_eq_true (by omega), cognateref01_thing.j1, if_pos rfl, w64 (n := (i : Int) + 2) (by omega) (by omega), if_pos (by omega), if_pos (by omega), b2, worth_eq, Option.bind_some, w64 (n := (i : Int) + 3) (by omega) (by omega), if_pos (by omega), if_pos (by omega), b3, worth_eq, Option.bind_some, if_pos c5, if_pos c7, if_neg (by omega), htx, hexM, if_neg (by omega), hexM, if_neg (by omega), hexM, w64 (n := 16 * _) (by omega) (by omega), w64 (by omega) (by omega)]
                  have e9 : bytesOf (⟨#[UInt8.ofNat ((0 * 16 + hexv (s.get! (i + 2))) * 16 + hexv (s.get! (i + 3)))]⟩ : ByteArray) = [(16 * (hexv (s.get! (i + 2)) : Int) + (hexv (s.get! (i + 3)) : Int)) % 256] := by
                    show [(((UInt8.ofNat ((0 * 16 + hexv (s.get! (i + 2))) * 16 + hexv (s.get! (i + 3)))).toNat : Nat) : Int)] = _
                    rw [of8]
                    congr 1
                    omega
                  rw [Option.getD_some, e9]
                  rfl
                · rw [if_neg c7, decide_eq_false (by omega), if_pos (.inl (by have := mt hx3.2 c7; omega)), cognateref01_thing.j1, if_neg (by simp)]; rfl
              · rw [if_neg (by omega), none1, if_pos (.inr (by omega))]; rfl
            · rw [if_neg c5, if_neg (by omega), none1, if_pos (.inl (by have := mt hx2.2 c5; omega))]; rfl
          · rw [if_neg (by omega), none1, if_pos (.inl (by omega))]; rfl
        · rw [if_neg (by omega), if_neg c3]
          by_cases c4 : (s.get! (i + 1)).toNat = 117
          · rw [if_pos (by omega), if_pos c4, w64 (by omega) (by omega)]
            exact thing_u s i hs (by omega) k (by omega)
          · rw [if_neg (by omega), if_neg c4]; rfl
  · rw [if_neg (by omega), if_pos c0]
    by_cases c1 : 32 ≤ (s.get! i).toNat
    · rw [if_pos (by omega)]
      by_cases c2 : (s.get! i).toNat ≤ 126
      · rw [if_pos (by omega), if_neg (by omega), if_neg (by omega), one 0 (by omega), g0]; rfl
      · rw [if_neg (by omega), if_pos (by omega)]; rfl
    · rw [if_neg (by omega), if_pos (by omega)]; rfl
end Go.Proofs.YtglaagoblcpggaaDoor.R
end

section
set_option linter.unusedVariables false
set_option linter.unusedSimpArgs false
namespace Go.Proofs.YtglaagoblcpggaaDoor.R
open Go.RowKit Go.Proofs.YtglaagoblcpggaaDoorW.PrintWords

theorem quote_some (s : ByteArray) (hs : s.size ≤ 65536) : ∃ q, runes_quote.f s = some q := by unfold runes_quote.f; rw [if_pos hs]; exact ⟨_, rfl⟩
theorem Quote_same (s : ByteArray) (k : Nat) (hk : 65600 ≤ k) : ∃ r, runes_Quote.f s = some r ∧ cognateref01_Quote.f k s = some r := by
  unfold runes_Quote.f cognateref01_Quote.f runes_long.f
  by_cases c : (s.size : Int) > 65536
  · rw [if_pos c, if_pos c, Option.bind_some, if_neg (by omega)]
    exact ⟨_, rfl, rfl⟩
  · obtain ⟨q, hq⟩ := quote_some s (by omega)
    rw [if_neg c, if_neg c, Option.bind_some, if_pos rfl, refquote_eq s (by omega) k (by omega), hq]
    exact ⟨_, rfl, rfl⟩
theorem bytes_join (a b : List UInt8) : bytesOf ⟨a.toArray⟩ ++ bytesOf ⟨b.toArray⟩ = bytesOf ⟨(a ++ b).toArray⟩ := by simp [bytesOf]
theorem data_toArray (b : ByteArray) : (⟨b.data.toList.toArray⟩ : ByteArray) = b := rfl
theorem Plain_same_loop (s : ByteArray) (hs : s.size ≤ 5000) : ∀ (f i : Nat) (acc : List UInt8) (k : Nat), s.size - i < f → 1 ≤ i → i ≤ 2 * s.size + 8 → acc.length ≤ 4 * i → 2 * f + 50000 ≤ k →
    cognateref01_Plain.l0 k s (bytesOf ⟨acc.toArray⟩) (i : Int) = some (plainEnd s (plainLoop f s i acc))
  | 0, i, acc, k, hf, _, _, _, _ => by omega
  | f + 1, i, acc, k, hf, h1, hi, ha, hk => by
    obtain ⟨k, rfl⟩ : ∃ m, k = m + 1 + 1 := ⟨k - 2, by omega⟩
    have hal : (bytesOf ⟨acc.toArray⟩).length = acc.length := by rw [bytesOf_length]; rfl
    rw [cognateref01_Plain.l0, plainLoop]
    by_cases c : i < s.size
    · rw [if_pos (by omega), if_pos (by omega), bt_get s i c]
      by_cases q : (s.get! i).toNat = 34
      · rw [if_neg (fun h => h.2 q), show (((s.get! i).toNat : Int) != 34) = false from bne_eq_false_iff_eq.2 (by omega), cognateref01_Plain.j2, if_neg (by simp), if_neg (by omega), w64 (by omega) (by omega)]
        unfold plainEnd
        rw [if_neg (show ¬ (false, i, acc).1 = true by simp), if_neg (show ¬ s.size ≤ (false, i, acc).2.1 by simp only; omega)]
        by_cases c1 : i + 1 < s.size
        · rw [if_pos (by omega), if_pos (show (false, i, acc).2.1 + 1 < s.size from c1)]; rfl
        · rw [if_neg (by omega), if_neg (show ¬ (false, i, acc).2.1 + 1 < s.size from c1), hal]
          by_cases c2 : 65536 < acc.length
          · rw [if_pos (by omega), if_pos (show 65536 < (false, i, acc).2.2.length from c2)]
          · obtain ⟨q, hq⟩ := quote_some ⟨acc.toArray⟩ (show acc.toArray.size ≤ 65536 by rw [List.size_toArray]; omega)
            have hqs : q.toList = s.toList ↔ q = s := by
              rw [Lib.toList_data, Lib.toList_data]
              exact ⟨fun e => ByteArray.ext (Array.toList_inj.1 e), fun e => by rw [e]⟩
            rw [if_neg (by omega), if_neg (show ¬ 65536 < (false, i, acc).2.2.length from c2), string_of_bytes', refquote_eq _ (show acc.toArray.size ≤ 65536 by rw [List.size_toArray]; omega) k (show acc.toArray.size + 40 ≤ k by rw [List.size_toArray]; omega), hq, Option.bind_some]
            simp only [hq, Option.some.injEq, hqs]
            by_cases e : q = s
            · rw [if_pos e, if_pos e]
            · rw [if_neg e, if_neg e]
      · rw [if_pos ⟨c, q⟩, show (((s.get! i).toNat : Int) != 34) = true from bne_iff_ne.2 (by omega), cognateref01_Plain.j2, if_pos rfl, thing_eq s i (by omega) c q k (by omega), Option.bind_some]
        have ht := thingP_size (s.extract i s.size)
        have hsz := sz_tail s i
        by_cases c0 : (thingP (s.extract i s.size)).2 = 0
        · rw [if_pos c0]
          simp only
          rw [if_pos (by omega)]
          rfl
        · rw [if_neg c0]
          simp only
          have hl : (thingP (s.extract i s.size)).1.data.toList.length = (thingP (s.extract i s.size)).1.size := lenB _
          rw [if_neg (by omega), if_pos (by rw [hal, bytesOf_length]; omega), w64 (by omega) (by omega), ← data_toArray (thingP (s.extract i s.size)).1, bytes_join]
          have := Plain_same_loop s hs f (i + (thingP (s.extract i s.size)).2) (acc ++ (thingP (s.extract i s.size)).1.data.toList) k (by omega) (by omega) (by omega) (by rw [List.length_append]; omega) (by omega)
          rw [← this]
          congr 1
    · rw [if_neg (by omega), if_neg (fun h => c h.1), cognateref01_Plain.j2, if_neg (by simp), if_pos (by omega)]
      unfold plainEnd
      rw [if_neg (show ¬ (false, i, acc).1 = true by simp), if_pos (show s.size ≤ (false, i, acc).2.1 by simp only; omega)]
theorem Plain_same (s : ByteArray) (hs : s.size ≤ 5000 ∨ 1048576 < s.size) (k : Nat) (hk : 70000 ≤ k) : ∃ r, runes_Plain.f s = some r ∧ cognateref01_Plain.f k s = some r := by
  unfold runes_Plain.f cognateref01_Plain.f
  by_cases c : 1048576 < s.size
  · rw [if_pos c, if_pos (by omega)]; exact ⟨_, rfl, rfl⟩
  · rw [if_neg c, if_neg (show ¬ (s.size : Int) > 1048576 by omega), prefix_one, ← Lib.toList_data]
    obtain ⟨k, rfl⟩ : ∃ m, k = m + 1 := ⟨k - 1, by omega⟩
    by_cases e : s.toList = []
    · rw [if_pos e, e, if_pos (by simp), cognateref01_Plain.j0, if_pos rfl]
      exact ⟨_, rfl, rfl⟩
    · have hp : 0 < s.size := by
        rcases Nat.eq_zero_or_pos s.size with g | g
        · exact absurd (by rw [Lib.toList_data]; exact List.eq_nil_of_length_eq_zero (by rw [lenB]; exact g)) e
        · exact g
      have h0 : s.toList[0]? = some (s.get! 0) := by
        have := drop_at s 0 0 (by omega)
        rw [List.drop_zero] at this
        rw [Lib.toList_data]
        exact this
      rw [if_neg e, if_pos (show 0 < (s.size : Int) by omega), show bt s 0 = ((s.get! 0).toNat : Int) from bt_get s 0 hp, h0, cognateref01_Plain.j0]
      by_cases q : (s.get! 0).toNat = 34
      · have hq : (some (s.get! 0) = some 34) := congrArg some (UInt8.toNat_inj.1 q)
        rw [if_neg (by rw [decide_eq_true hq]; simp), show (((s.get! 0).toNat : Int) != 34) = false from bne_eq_false_iff_eq.2 (by omega), if_neg (by simp)]
        have := Plain_same_loop s (by omega) (s.size + 1) 1 [] k (by omega) (by omega) (by omega) (by simp) (by omega)
        exact ⟨_, rfl, this⟩
      · have hq : ¬ (some (s.get! 0) = some 34) := fun h => q (by rw [Option.some.inj h]; rfl)
        rw [if_pos (by rw [decide_eq_false hq]), show (((s.get! 0).toNat : Int) != 34) = true from bne_iff_ne.2 (by omega), if_pos rfl]
        exact ⟨_, rfl, rfl⟩
theorem Text_loop (l : List Int) (hl : l.length ≤ 3000) (d : Nat) : ∀ (n k : Nat) (acc : List Int), l.length - n = d → n ≤ l.length → acc.length ≤ 4 * n → d + 2 ≤ k →
    cognateref01_Text.l0 k l acc n = some (strOfNums (acc ++ ((l.drop n).map fun p => bytesOf (Utf8.encode p)).flatten)) := by
  induction d with
  | zero =>
    intro n k acc hd h1 ha hk
    obtain ⟨k, rfl⟩ : ∃ m, k = m + 1 := ⟨k - 1, by omega⟩
    rw [cognateref01_Text.l0, if_neg (by omega), List.drop_eq_nil_of_le (by omega)]
    simp
  | succ d ih =>
    intro n k acc hd h1 ha hk
    obtain ⟨k, rfl⟩ : ∃ m, k = m + 1 + 1 := ⟨k - 2, by omega⟩
    have hn : n < l.length := by omega
    have he := enc_le l[n]
    have hr : rd l (n : Int) = l[n] := by
      unfold rd
      simp [List.getD_eq_getElem?_getD, List.getElem?_eq_getElem hn]
    rw [cognateref01_Text.l0, if_pos (by omega), if_pos (by omega), hr, one_eq, Option.bind_some, if_pos (by omega), w64 (by omega) (by omega)]
    have := ih (n + 1) (k + 1) (acc ++ bytesOf (Utf8.encode l[n])) (by omega) (by omega) (by rw [List.length_append]; omega) (by omega)
    rw [show (((n + 1 : Nat)) : Int) = (n : Int) + 1 by omega] at this
    rw [this, List.drop_eq_getElem_cons hn, List.map_cons, List.flatten_cons, List.append_assoc]
theorem Text_same (l : List Int) (hl : l.length ≤ 3000) (k : Nat) (hk : 3002 ≤ k) : cognateref01_Text.f k l = some (runesBytes l) := by
  unfold cognateref01_Text.f
  have := Text_loop l hl l.length 0 k [] (by omega) (by omega) (by simp) (by omega)
  rw [List.drop_zero, List.nil_append, ← runesBytes_bytes, string_of_bytes'] at this
  exact this
theorem rd_eq (l : List Int) (n : Nat) (x : Int) (h : l[n]? = some x) : rd l (n : Int) = x := by
  have hn : n < l.length := by
    rcases Nat.lt_or_ge n l.length with g | g
    · exact g
    · rw [List.getElem?_eq_none g] at h; cases h
  rw [List.getElem?_eq_getElem hn] at h
  unfold rd
  simp [List.getD_eq_getElem?_getD, List.getElem?_eq_getElem hn]
  exact Option.some.inj h
theorem Quotes_loop (l : List Int) (hl : l.length ≤ 3000) (a : ByteArray) (e : Int) (c : ByteArray) (p g : Int) (d : Nat) : ∀ (n k : Nat), l.length - n = d → n ≤ l.length → d + 1 ≤ k →
    cognatelaw01_RunesQuotes.l0 k l a e a e c p g c p g (l ++ [77]) true n = some true := by
  induction d with
  | zero =>
    intro n k hd h1 hk
    obtain ⟨k, rfl⟩ : ∃ m, k = m + 1 := ⟨k - 1, by omega⟩
    have hr : rd (l ++ [77]) (l.length : Int) = 77 := rd_eq _ _ _ (by simp)
    rw [cognatelaw01_RunesQuotes.l0, if_neg (by omega), if_pos rfl, if_pos (by omega), if_pos (by simp; omega), if_pos hr, if_pos rfl, if_pos rfl, if_pos rfl, if_pos rfl]
    simp
  | succ d ih =>
    intro n k hd h1 hk
    obtain ⟨k, rfl⟩ : ∃ m, k = m + 1 := ⟨k - 1, by omega⟩
    have hn : n < l.length := by omega
    have h2 : rd (l ++ [77]) (n : Int) = l[n] := rd_eq _ _ _ (by rw [List.getElem?_append_left hn, List.getElem?_eq_getElem hn])
    have h3 : rd l (n : Int) = l[n] := rd_eq _ _ _ (List.getElem?_eq_getElem hn)
    rw [cognatelaw01_RunesQuotes.l0, if_pos (by omega), if_pos rfl, if_pos (by omega), if_pos (by simp; omega), h2, h3, w64 (by omega) (by omega), beq_self_eq_true]
    exact ih (n + 1) k (by omega) (by omega) (by omega)
theorem RunesQuotes_pure : cognatelaw01_RunesQuotes.Pure := by
  intro s q l _ _ _ _ _
  refine ⟨100000, ?_⟩
  have skip : cognatelaw01_RunesQuotes.j0 100000 s q l true = some true := by rw [show 100000 = 99999 + 1 from rfl, cognatelaw01_RunesQuotes.j0, if_pos rfl]
  have main : (q.size ≤ 5000 ∨ 1048576 < q.size) → ∀ b : Bool, b = decide ((l.length : Int) > 3000) → cognatelaw01_RunesQuotes.j0 100000 s q l b = some true := by
    intro hq b hb
    by_cases c : (l.length : Int) > 3000
    · rw [hb, decide_eq_true c, skip]
    · obtain ⟨⟨a, e⟩, ha1, ha2⟩ := Quote_same s 99999 (by omega)
      obtain ⟨⟨c', p, g⟩, hp1, hp2⟩ := Plain_same q hq 99999 (by omega)
      rw [hb, decide_eq_false c, show 100000 = 99999 + 1 from rfl, cognatelaw01_RunesQuotes.j0, if_neg (by simp), ha1, Option.bind_some, ha2, Option.bind_some, hp1, Option.bind_some, hp2, Option.bind_some, if_pos (by simp only [List.length_nil]; omega), Option.bind_some, if_pos (by simp only [List.nil_append]; omega), Option.bind_some, if_pos (by omega), if_pos (by simp; omega), List.nil_append, Int.toNat_natCast, List.take_left' rfl]
      have h1 : runes_Text.f l = some (runesBytes l) := rfl
      rw [h1, Option.bind_some, Text_same l (by omega) _ (by omega), Option.bind_some, beq_self_eq_true]
      exact Quotes_loop l (by omega) a e c' p g l.length 0 _ (by omega) (by omega) (by omega)
  unfold cognatelaw01_RunesQuotes.f
  have hlong : ∃ t, cognatelaw01_long.f s = some t := by
    unfold cognatelaw01_long.f
    repeat' split
    all_goals exact ⟨_, rfl⟩
  obtain ⟨t, ht⟩ := hlong
  rw [ht, Option.bind_some]
  cases t with
  | true => rw [if_pos rfl, skip]
  | false =>
    rw [if_neg (by simp)]
    by_cases c1 : (q.size : Int) > 5000
    · rw [if_pos c1]
      by_cases c2 : (q.size : Int) ≤ 1048576
      · rw [if_pos c2, skip]
      · rw [if_neg c2]
        by_cases c3 : (q.size : Int) > 1100000
        · rw [if_pos c3, skip]
        · rw [if_neg c3]
          exact main (.inr (by omega)) _ rfl
    · rw [if_neg c1, if_neg (by omega)]
      exact main (.inl (by omega)) _ rfl
end Go.Proofs.YtglaagoblcpggaaDoor.R
end

section
set_option linter.unusedVariables false
namespace Go.Proofs.YtglaagoblcpggaaDoor.runesQuotes
open Go.ChangeShapes Go.WideShapes Go.ChangeAt Go.RowKit
open Go.ChangeMaps (open_string shut_string)
open Go.Proofs.YtglaagoblcpggaaDoor.R

theorem laidOut : laidOutB Tryd.prog = true := by kernel_rfl
def IsRow (k : IntKind) (w : World) (a : Option Addr) (len cap : Nat) (zs : List Int) : Prop :=
  (a = none ∧ len = 0 ∧ cap = 0 ∧ zs = []) ∨
  ∃ x, a = some x ∧ len ≤ cap ∧ cap ≤ maxLen ∧ zs.length = cap ∧ (∀ i, i < zs.length → w.cell? (x.add i) = some (.int k (zs.getD i 0))) ∧ ∀ n ∈ zs, (Lit.int k n).wf = true
set_option maxRecDepth 100000 in
theorem lifted (os : Os) (started : os.Started) (H : Type) (enc : TypeId × Value → H) :
    ReturnsInHanded {} Tryd.checked os 7 .any (fun w args => (Rows.runesQuotesSpec.pre enc Tryd.prog Tryd.f7 [] false w args ∧ laidMetH Tryd.prog laidE w) ∧ sizedMet enc Tryd.prog Tryd.f7 (OpenSpec.ofChange Rows.runesQuotesSpec) false w args) (Rows.runesQuotesSpec.post enc Tryd.prog Tryd.f7 false true false false) := by
  refine returnsInHanded_of_change_and (C := Tryd.checked) (X := fun w _ => laidMetH Tryd.prog laidE w) (fun _ _ _ hh h => h.of_heap hh) own started (by kernel_rfl) Tryd.func7
    (ChangeSpec.witness_shaped (enc := enc) (C := Tryd.checked) (os := os) (X := fun w _ => laidMetH Tryd.prog laidE w) false (laidWE os) #[.string ByteArray.empty, .string ByteArray.empty, .slice none 0 0] 8 rfl (shapedE os _) (by kernel_rfl) (by kernel_rfl) (by kernel_rfl) (metE os _)) ?_
  intro W base args ds gs before hval0 hW _ hsz0 hL _
  have hsz : (DataW.weightsEach Tryd.prog (Tryd.f7.params.toList ++ Rows.runesQuotesSpec.plain.varTypes Tryd.prog) (ds ++ gs)).all (· ≤ reachBytes) = true := hsz0
  have hval : ∀ (j : Nat) t v, Tryd.f7.params[j]? = some t → args[j]? = some v → Value.okWide Tryd.prog W .any base t v := hval0
  have hW' := hW
  obtain ⟨p, q, hA0, hV, rfl, hfz, hnd⟩ := hW
  have hA : DataW.TrodAll enc Tryd.prog W 0 (fun _ => true) true Tryd.f7.params.toList args.toList ds p := hA0
  rw [Tryd.params7] at hA hval hsz
  obtain ⟨v0, vs0, d0, ds0, p0, q0, hargs, rfl, rfl, h0, r0⟩ := trodAll_cons hA
  obtain ⟨v1, vs1, d1, ds1, p1, q1, rfl, rfl, rfl, h1, r1⟩ := trodAll_cons r0
  obtain ⟨v2, vs2, d2, ds2, p2, q2, rfl, rfl, rfl, h2, r2⟩ := trodAll_cons r1
  obtain ⟨rfl, rfl, rfl⟩ := trodAll_nil r2
  obtain rfl : args = #[v0, v1, v2] := by cases args; simp_all
  obtain ⟨rfl, rfl⟩ := trodVars_none hV
  obtain ⟨a0, rfl, rfl, rfl, y0⟩ := open_string Tryd.underlying9 (hval 0 9 v0 rfl rfl) h0
  have w0 : a0.size ≤ 140737488351232 := by
    have z := sized_string hsz (j := 0) (t := 9) rfl rfl
    rw [Array.length_toList] at z
    exact z
  obtain ⟨a1, rfl, rfl, rfl, y1⟩ := open_string Tryd.underlying9 (hval 1 9 v1 rfl rfl) h1
  have w1 : a1.size ≤ 140737488351232 := by
    have z := sized_string hsz (j := 1) (t := 9) rfl rfl
    rw [Array.length_toList] at z
    exact z
  obtain ⟨a2, len2, cap2, rfl⟩ := okWide_slice Tryd.underlying39 (hval 2 39 v2 rfl rfl)
  have k2 := h2
  have lt2 : ∀ x ∈ p2, x.block < W.heap.size := by obtain ⟨m, hm⟩ := k2; exact DataW.trod_lt m _ _ _ hm
  obtain ⟨z2, w2⟩ : ∃ zs, IsRow .i32 W a2 len2 cap2 zs := by
    obtain ⟨fuel, hf⟩ := h2
    rcases open_ints Tryd.underlying39 Tryd.underlying21 (by kernel_rfl) hf with ⟨hcs, _⟩ | ⟨x, l, c, zs, hcs, _, hl, hm, hz, _, hcell, hwz⟩
    · simp [Value.cells] at hcs
      obtain ⟨rfl, rfl, rfl⟩ := hcs
      exact ⟨[], .inl ⟨rfl, rfl, rfl, rfl⟩⟩
    · simp [Value.cells] at hcs
      obtain ⟨rfl, rfl, rfl⟩ := hcs
      exact ⟨zs, .inr ⟨_, rfl, hl, hm, by simpa using hz, hcell, hwz⟩⟩
  have y2 : len2 * 4 ≤ 140737488351232 := Go.Proofs.YtglaagoblcpggaaDoorW.PrintWords.sized_ints hsz (j := 2) (t := 39) rfl rfl Tryd.underlying39 Tryd.underlying21 (by kernel_rfl) (by kernel_rfl) h2
  have hTU := tabU_ofE hL
  have hTN := tabN_ofE hL
  have hTE := tabE_ofE hL
  clear hA0 hval0 hsz0 hsz hL
  refine (cognatelaw01_RunesQuotes.walk RunesQuotes_pure a0 a1 a2 len2 cap2 z2 W hTU hTN hTE w0 w1 w2 y2).mono fun e W' ⟨he, bel⟩ => ?_
  subst he
  exact ⟨_, rfl, _, _, _, [], _, [], hW', trodAll_mk1 (shut_bool Tryd.underlying4 _), (trodAll_cons_mk (shut_string Tryd.underlying9 y0) (trodAll_cons_mk (shut_string Tryd.underlying9 y1) (trodAll_cons_mk (Below.trod laidOut (by kernel_rfl) (of_decide_eq_true (by kernel_rfl)) k2 bel lt2) trodAll_mk0))), rfl, bel.frame _, fun h => by cases h⟩

theorem over : Rows.RunesQuotesSaid :=
  OpenClaim.holds_of_wide 7 Tryd.f7 rfl rfl rfl rfl rfl rfl rfl ⟨rfl, rfl, rfl, rfl, rfl⟩ rfl rfl rfl rfl rfl (by kernel_rfl) Tryd.func7 (by kernel_rfl)
    (of_decide_eq_true (by kernel_rfl)) (by unfold Func.isWrapper; first | (rw [if_pos (by decide +kernel)]; kernel_rfl) | (rw [if_neg (by decide +kernel)]; exact ⟨rfl, rfl⟩))
    (fun os started H enc _ => lifted os started H enc)

/-- The tied card. -/
theorem proved : Rows.RunesQuotesCardSaid :=
  Claim7.holds_tied_plain_at .later [] [.data, .data, .data, .data, .sentinel, .sentinel, .pinned] true (true, "ed7fd6e25a07849abb3a1694c84ccb4cce39eaac69888740cb1fd0969a465add") true
    over (fun _ h => by cases h) (by kernel_rfl) (fun _ h => by cases h) runesQuotes_row_tie rfl ⟨rfl, rfl⟩ (by kernel_rfl) rfl
    (fun f fn hf hfn => by
      obtain rfl : f = 7 := Option.some.inj ((show Tryd.prog.funcNamed "cognate/cognatelaw01.RunesQuotes" = some 7 by kernel_rfl).symm.trans hf) |>.symm
      obtain rfl : fn = Tryd.f7 := (Option.some.inj (Tryd.func7.symm.trans hfn)).symm
      exact ⟨by kernel_rfl, fun j t ht => by
        rw [Tryd.params7] at ht
        have hm : t ∈ [9, 9, 39] := by simpa using Array.mem_of_getElem? ht
        have hall : ([9, 9, 39].all fun u => !Tryd.prog.wantsStandIn u) = true := by kernel_rfl
        exact (show Tryd.prog.wantsStandIn t = false by simpa using List.all_eq_true.1 hall t hm)⟩)
    (by kernel_rfl)
#print axioms proved
end Go.Proofs.YtglaagoblcpggaaDoor.runesQuotes
end
