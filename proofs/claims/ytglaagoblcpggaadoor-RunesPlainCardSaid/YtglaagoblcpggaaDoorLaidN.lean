/- Where a row lists the tables of unicode/utf8, math/bits and strconv (with or without strconv's two errors): a world that holds them, and what the walks ask. -/
import Derived.Test.YtglaagoblcpggaaDoorLaidU
import Derived.Test.YtglaagoblcpggaaDoorHF
set_option linter.unusedVariables false
namespace Go.Proofs.YtglaagoblcpggaaDoor.R
open Go.RowKit

/-- The world as the program's own initialisers lay it; 'first', which none lays, as the library's text has it. -/
noncomputable def laidWE (os : Os) : World :=
  let w0 := World.doorLaid Tryd.prog 4000 os
  { w0 with heap := w0.heap.modify 0 fun
    | .cells _ t frozen => .cells (Lib.firstTab.map fun z => Value.int .u8 z).toArray t frozen
    | o => o }

abbrev laidN : List (String × DataW Unit) := [("math/bits.deBruijn32tab", Rows.laid_math_bits_deBruijn32tab), ("math/bits.deBruijn64tab", Rows.laid_math_bits_deBruijn64tab), ("internal/strconv.uint64pow10", Rows.laid_internal_strconv_uint64pow10), ("unicode/utf8.acceptRanges", Rows.laid_unicode_utf8_acceptRanges), ("unicode/utf8.first", Rows.laid_unicode_utf8_first)]
abbrev laidE : List (String × DataW Unit) := [("math/bits.deBruijn32tab", Rows.laid_math_bits_deBruijn32tab), ("math/bits.deBruijn64tab", Rows.laid_math_bits_deBruijn64tab), ("internal/strconv.uint64pow10", Rows.laid_internal_strconv_uint64pow10), ("unicode/utf8.acceptRanges", Rows.laid_unicode_utf8_acceptRanges), ("strconv.ErrRange", Rows.laid_strconv_ErrRange), ("strconv.ErrSyntax", Rows.laid_strconv_ErrSyntax), ("unicode/utf8.first", Rows.laid_unicode_utf8_first)]
noncomputable abbrev laidWN := laidWE
theorem shapedE (os : Os) (args : Array Value) : ((laidWE os).forCall (fun _ _ => 0) ⟨#[], args, []⟩).Shaped Tryd.prog := World.shaped_of_RefB (by kernel_rfl) (by kernel_rfl)
theorem shapedN (os : Os) (args : Array Value) : ((laidWN os).forCall (fun _ _ => 0) ⟨#[], args, []⟩).Shaped Tryd.prog := shapedE os args
theorem metN (os : Os) (args : Array Value) : laidMetH Tryd.prog laidN ((laidWE os).forCall (fun _ _ => 0) ⟨#[], args, []⟩).memory := by
  rw [MakeChecks.laidMetH_plain _ _ _ (by kernel_rfl)]
  exact laidMet_of_run' 8 (by kernel_rfl) (by kernel_rfl)
theorem metE (os : Os) (args : Array Value) : laidMetH Tryd.prog laidE ((laidWE os).forCall (fun _ _ => 0) ⟨#[], args, []⟩).memory := by
  rw [MakeChecks.laidMetH_plain _ _ _ (by kernel_rfl)]
  exact laidMet_of_run' 8 (by kernel_rfl) (by kernel_rfl)

def bruijn64 : List Int := [0, 1, 56, 2, 57, 49, 28, 3, 61, 58, 42, 50, 38, 29, 17, 4, 62, 47, 59, 36, 45, 43, 51, 22, 53, 39, 33, 30, 24, 18, 12, 5, 63, 55, 48, 27, 60, 41, 37, 16, 46, 35, 44, 21, 52, 32, 23, 11, 54, 26, 40, 15, 34, 20, 31, 10, 25, 14, 19, 9, 13, 8, 7, 6]
theorem bruijn_eq : (Rows.laid_math_bits_deBruijn64tab : DataW Unit) = Lib.tabData .u8 bruijn64 := by kernel_rfl
theorem tabN_of_reads {W : World} (h : Lib.VarReads Tryd.prog W "math/bits.deBruijn64tab" Rows.laid_math_bits_deBruijn64tab) : TabN W := by
  rw [bruijn_eq] at h
  obtain ⟨g, t, cs, fuel, p, hg, hty, hvar, hd⟩ := h
  obtain rfl := Option.some.inj ((show Tryd.prog.globalNamed "math/bits.deBruijn64tab" = some 7 by kernel_rfl).symm.trans hg)
  obtain rfl := Option.some.inj ((show (Tryd.prog.globals[7]?).map (·.type) = some 128 by kernel_rfl).symm.trans hty)
  have hcs := Lib.cells_of_tab Tryd.underlying128 Tryd.underlying5 (by kernel_rfl) (by kernel_rfl) hd
  have := World.var?_cell hg hvar 15
  unfold TabN
  rw [this, ← Array.getElem?_toList, hcs]
  rfl
theorem tabU_ofN {W : World} (h : laidMetH Tryd.prog laidN W) : TabU W := by
  rw [MakeChecks.laidMetH_plain _ _ _ (by kernel_rfl)] at h
  exact tabU_of_reads (Lib.laidMet.reads h (by simp)) (Lib.laidMet.reads h (by simp))
theorem tabN_ofN {W : World} (h : laidMetH Tryd.prog laidN W) : TabN W := by
  rw [MakeChecks.laidMetH_plain _ _ _ (by kernel_rfl)] at h
  exact tabN_of_reads (Lib.laidMet.reads h (by simp))
theorem tabU_ofE {W : World} (h : laidMetH Tryd.prog laidE W) : TabU W := by
  rw [MakeChecks.laidMetH_plain _ _ _ (by kernel_rfl)] at h
  exact tabU_of_reads (Lib.laidMet.reads h (by simp)) (Lib.laidMet.reads h (by simp))
theorem tabN_ofE {W : World} (h : laidMetH Tryd.prog laidE W) : TabN W := by
  rw [MakeChecks.laidMetH_plain _ _ _ (by kernel_rfl)] at h
  exact tabN_of_reads (Lib.laidMet.reads h (by simp))
end Go.Proofs.YtglaagoblcpggaaDoor.R
