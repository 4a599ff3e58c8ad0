/- strconv.FormatUint and FormatInt at base 16: walked once (the road over shifts). -/
import Derived.Test.YtglaagoblcpggaaDoorPa
import Derived.Test.YtglaagoblcpggaaDoorTabs
import Derived.Laws.Bits64b
import Derived.Laws.BytesArg
set_option linter.unusedVariables false
set_option linter.unusedSimpArgs false
namespace Go.Proofs.YtglaagoblcpggaaDoor.R
open Go.RowKit Go.Proofs.YtglaagoblcpggaaDoorW.PrintWords

/-- One cell of math/bits' table: what TrailingZeros64 reads at 16. -/
def TabN (w : World) : Prop := w.cell? ⟨7, 15, none⟩ = some (.int .u8 4)
theorem TabN.below {w w' : World} (h : TabN w) (hb : Below w.heap.size w w') : TabN w' := pw_cell_below hb h

/-- A digit's byte; a number in sixteens. -/
def hexd (n : Nat) : Int := if n < 10 then 48 + (n : Int) else 87 + (n : Int)
def hexGo : Nat → Nat → List Int
  | 0, _ => []
  | f + 1, u => if u < 16 then [hexd u] else hexGo f (u / 16) ++ [hexd (u % 16)]
def hexOf (u : Nat) : List Int := hexGo 17 u

set_option maxHeartbeats 4000000 in
set_option maxRecDepth 100000 in
theorem tz64_16 (w : World) (hT : TabN w) : Calls Tryd.prog 104 #[.int .u64 16] w fun e w' => e = .returned (.int .i64 4) ∧ w' = w := by
  have hT' : w.cell? ⟨7, 15, none⟩ = some (.int .u8 4) := hT
  have e1 : IntKind.u64.wrap (bits BinOp.and IntKind.u64 16 (IntKind.u64.wrap (-16)) * 285870213051353865) / 288230376151711744 = 15 := by decide
  clear hT
  go_enter Tryd.func104, Tryd.ntmps104
  go_wp2
  go_ret
  exact ⟨rfl, rfl⟩
set_option maxHeartbeats 4000000 in
set_option maxRecDepth 100000 in
theorem tz_16 (w : World) (hT : TabN w) : Calls Tryd.prog 98 #[.int .u64 16] w fun e w' => e = .returned (.int .i64 4) ∧ w' = w := by
  have HT := Aside0.mk hT
  clear hT
  go_enter Tryd.func98, Tryd.ntmps98
  go_wp2_with (go_at_call 104; refine (tz64_16 _ HT.out).mono ?_; rintro e w' ⟨rfl, rfl⟩)
  go_ret
  exact ⟨rfl, rfl⟩

set_option maxHeartbeats 4000000 in
set_option maxRecDepth 100000 in
theorem pow_16 (w : World) : Calls Tryd.prog 97 #[.int .i64 16] w fun e w' => e = .returned (.bool true) ∧ w' = w := by
  have e1 : bits BinOp.and IntKind.i64 16 15 = 0 := by decide
  go_enter Tryd.func97, Tryd.ntmps97
  go_wp2
  go_ret
  exact ⟨rfl, rfl⟩

set_option maxRecDepth 100000 in
theorem len118 : Tryd.prog.arrayLen 118 = 65 := by kernel_rfl
set_option maxRecDepth 100000 in
theorem elem118 : Tryd.prog.elem 118 = 5 := by kernel_rfl
set_option maxRecDepth 100000 in
theorem slice65 (g p : Nat) (hp : p ≤ 64) : ∀ W, (Instr.sliceAt 118 (.pointer (some ⟨g, 0, none⟩)) (some (.int .i64 (p : Int))) none none).run Tryd.prog W = .ok (.slice (some ⟨g, p, none⟩) (65 - p) (65 - p)) W := fun W => by
  rw [run_sliceAt_array_l W 118 ⟨g, 0, none⟩ Tryd.underlying118 .i64 (p : Int) (by omega) (by rw [len118]; omega), len118, elem118]
  have hsz : (sizeOf 5).run Tryd.prog W = .ok 1 W := Tryd.sizeOf5 W
  rw [hsz]
  have ea : (⟨g, 0, none⟩ : Addr).add p = ⟨g, p, none⟩ := by unfold Addr.add; simp; omega
  simp only [Result.andThen, slicedAt, Nat.mul_one, Int.toNat_natCast]
  rw [if_neg (by omega), ea]
set_option maxRecDepth 100000 in
theorem conv65 (g p : Nat) (W : World) (cs : Array Value) (xs : List Int) (h : W.heap[g]? = some (.cells cs 118 (0, 0))) (hl : xs.length = 65 - p) (hx : ∀ j, j < xs.length → cs[p + j]? = some (.int .u8 (xs.getD j 0))) :
    (convert 54 9 (.slice (some ⟨g, p, none⟩) (65 - p) (65 - p))).run Tryd.prog W = .ok (.string (strOfNums xs)) W := by
  rw [← hl]
  exact run_convert_bytes_arg W 54 5 Tryd.underlying54 Tryd.underlying5 g p xs.length xs.length xs rfl (fun i hi => (blk_cell h (p + i)).trans (hx i hi)) 9 Tryd.underlying9
theorem digits_at (p : Nat) (cs : Array Value) (x : Int) (tail : List Int) (h1 : p < cs.size) (h2 : ∀ j, j < tail.length → cs[p + 1 + j]? = some (.int .u8 (tail.getD j 0))) (j : Nat) (hj : j < (x :: tail).length) : (cs.setIfInBounds p (.int .u8 x))[p + j]? = some (.int .u8 ((x :: tail).getD j 0)) := by
  cases j with
  | zero => simp [Array.getElem?_setIfInBounds, h1]
  | succ j =>
    have := h2 j (by simp at hj; omega)
    rw [show p + 1 + j = p + (j + 1) by omega] at this
    rw [Array.getElem?_setIfInBounds, if_neg (by omega)]
    simpa using this
set_option maxRecDepth 100000 in
theorem digit_at (n : Nat) (h : n < 16) : ∀ hh : n < (⟨List.toArray (48 :: 49 :: 50 :: 51 :: 52 :: 53 :: 54 :: 55 :: 56 :: 57 :: 97 :: 98 :: 99 :: 100 :: 101 :: 102 :: 103 :: 104 :: 105 :: 106 :: 107 :: 108 :: 109 :: 110 :: 111 :: 112 :: 113 :: 114 :: 115 :: 116 :: 117 :: 118 :: 119 :: 120 :: 121 :: 122 :: [])⟩ : ByteArray).size, ((((⟨List.toArray (48 :: 49 :: 50 :: 51 :: 52 :: 53 :: 54 :: 55 :: 56 :: 57 :: 97 :: 98 :: 99 :: 100 :: 101 :: 102 :: 103 :: 104 :: 105 :: 106 :: 107 :: 108 :: 109 :: 110 :: 111 :: 112 :: 113 :: 114 :: 115 :: 116 :: 117 :: 118 :: 119 :: 120 :: 121 :: 122 :: [])⟩ : ByteArray)[n]'hh).toNat : Nat) : Int) = hexd n := by
  intro hh
  match n, h with
  | 0, _ => rfl
  | 1, _ => rfl
  | 2, _ => rfl
  | 3, _ => rfl
  | 4, _ => rfl
  | 5, _ => rfl
  | 6, _ => rfl
  | 7, _ => rfl
  | 8, _ => rfl
  | 9, _ => rfl
  | 10, _ => rfl
  | 11, _ => rfl
  | 12, _ => rfl
  | 13, _ => rfl
  | 14, _ => rfl
  | 15, _ => rfl
  | n + 16, h => exact absurd h (by omega)

set_option maxHeartbeats 4000000 in
set_option maxRecDepth 100000 in
theorem formatBits_any (u : Nat) (hu : u < 2 ^ 64) (w : World) (hT : TabN w) :
    Calls Tryd.prog 89 #[.slice none 0 0, .int .u64 u, .int .i64 16, .bool false, .bool false] w fun e w' => e = .returned (.tuple #[.slice none 0 0, .string (strOfNums (hexOf u))]) ∧ Below w.heap.size w w' := by
  have HT := Aside0.mk hT
  have HU := Aside0.mk hu
  clear hT hu
  have hu54 := Tryd.underlying54
  go_enter Tryd.func89, Tryd.ntmps89
  go_wp2_with (first | (go_at_call 97; refine (pow_16 _).mono ?_; rintro e w' ⟨rfl, rfl⟩) | (go_at_call 98; refine (tz_16 _ ?tb).mono ?_; (case tb => exact HT.out.below HB.out); rintro e w' ⟨rfl, rfl⟩) | ((with_reducible refine gate_dst (N := 12) rfl ?_); refine box_event ?hg (N := 12) ?hd (cs := Array.replicate 65 (.int .u8 0)) (t := 118) ?hr ?_; (case hd => rfl); (case hg => rfl); (case hr => first | (go_simp; done) | (go_simp; rfl)); intro gb hg w6 hbox hb; have HG := Aside0.mk hg; have HB := Aside0.mk hb; have HBX := Aside0.mk hbox; clear hg hb hbox))
  go_loopw [1, 13] (fun x i wr => ∃ (p f u' : Nat) (cs : Array Value) (tail : List Int), x = .int .u64 u' ∧ i = .int .i64 ((p + 1 : Nat) : Int) ∧ Aside0 (p = 47 + f ∧ 1 ≤ f ∧ f ≤ 17 ∧ u' < 16 ^ f ∧ u' < 2 ^ 64 ∧ hexGo f u' ++ tail = hexOf u ∧ tail.length + f = 17) ∧ Aside0 (wr.heap[gb]? = some (.cells cs 118 (0, 0))) ∧ Aside0 (cs.size = 65 ∧ ∀ j, j < tail.length → cs[p + 1 + j]? = some (.int .u8 (tail.getD j 0))) ∧ Aside0 (Below w.heap.size w wr)) (fun x _ _ => (intOf x).toNat)
  case atStart => exact ⟨64, 17, u, _, [], rfl, rfl, ⟨rfl, by omega, by omega, by have := HU.out; omega, HU.out, by simp [hexOf], rfl⟩, HBX, ⟨by simp, fun j hj => by simp at hj⟩, HB⟩
  case round =>
    obtain ⟨p, f, u', cs, tail, rfl, rfl, HF, HBR, HC, HBB⟩ := hrel
    have hf := HF.out
    have hp : p ≤ 64 := by omega
    obtain ⟨v0, hv0⟩ : ∃ v, cs[p]? = some v := ⟨cs[p]'(by have := HC.out.1; omega), Array.getElem?_eq_getElem _⟩
    have hcell : wr.cell? ⟨gb, p, none⟩ = some v0 := (blk_cell HBR.out p).trans hv0
    have hfz := blk_frozen HBR.out p
    have hge : w.heap.size ≤ gb := by have := HG.out; omega
    have HGE := Aside0.mk hge
    clear hv0 hge
    by_cases hlt : u' < 16
    · have hb : decide (16 ≤ (u' : Int)) = false := decide_eq_false (by omega)
      have hm : (u' : Int) < 36 := by omega
      have hsl := slice65 gb p hp
      have hdg := digit_at u' hlt
      have hcv := fun W (h : W.heap[gb]? = some (.cells (cs.setIfInBounds p (.int .u8 (hexd u'))) 118 (0, 0))) => conv65 gb p W (cs.setIfInBounds p (.int .u8 (hexd u'))) (hexd u' :: tail) h (by rw [List.length_cons]; omega) (fun j hj => by
        have hc := HC.out
        exact digits_at p cs (hexd u') tail (by have h1 := hc.1; omega) hc.2 j hj)
      have hcv2 := hcv (wr.setCell ⟨gb, p, none⟩ (.int .u8 (hexd u'))) (blk_set HBR.out p _)
      have hex : hexOf u = hexd u' :: tail := by
        rw [← hf.2.2.2.2.2.1]
        obtain ⟨g, rfl⟩ : ∃ g, f = g + 1 := ⟨f - 1, by omega⟩
        rw [hexGo, if_pos hlt]
        rfl
      have HEX := Aside0.mk hex
      clear hcv hex
      clear hf
      go_wp2
      go_ret2
      exact ⟨by rw [HEX.out]; rfl, below_set HBB.out HGE.out⟩
    · have hb : decide (16 ≤ (u' : Int)) = true := decide_eq_true (by omega)
      have hand : bits BinOp.and IntKind.u64 (u' : Int) 15 = ((u' % 16 : Nat) : Int) := by
        have := bits_and_u64_nat u' 15 (by omega) (by omega)
        rw [show ((15 : Nat) : Int) = 15 from rfl] at this
        rw [this, show u' &&& 15 = u' % 16 from Nat.and_two_pow_sub_one_eq_mod u' 4]
      have hm : u' % 16 < 16 := Nat.mod_lt _ (by omega)
      have HLT := Aside0.mk hlt
      have hdg := digit_at (u' % 16) hm
      clear hf hlt
      go_wp2
      go_roundw
      case rel =>
        have h1 := HF.out
        have h2 := HC.out
        have h3 := HLT.out
        obtain ⟨f, rfl⟩ : ∃ g, f = g + 1 := ⟨f - 1, by omega⟩
        refine ⟨p - 1, f, u' / 16, _, hexd (u' % 16) :: tail, by go_num, by rw [show p - 1 + 1 = p by omega], ⟨by omega, ?_, by omega, ?_, by omega, ?_, by simp; omega⟩, ⟨blk_set HBR.out p _⟩, ⟨by simp; omega, fun j hj => ?_⟩, ⟨below_set HBB.out HGE.out⟩⟩
        · cases f with
          | zero => simp at h1; omega
          | succ f => omega
        · have := h1.2.2.2.1
          rw [Nat.pow_succ] at this
          exact Nat.div_lt_of_lt_mul (by rw [Nat.mul_comm]; exact this)
        · rw [← h1.2.2.2.2.2.1]
          rw [hexGo, if_neg h3]
          simp
        · have h4 := digits_at p cs (hexd (u' % 16)) tail (by omega) h2.2 j hj
          rwa [show p - 1 + 1 + j = p + j by omega]
      case measure => simp [intOf]; have := HLT.out; omega

/-- The bytes of a number in sixteens. -/
def hexS (u : Nat) : ByteArray := strOfNums (hexOf u)

set_option maxHeartbeats 4000000 in
set_option maxRecDepth 100000 in
theorem iFormatUint_any (u : Nat) (hu : u < 2 ^ 64) (w : World) (hT : TabN w) : Calls Tryd.prog 76 #[.int .u64 u, .int .i64 16] w fun e w' => e = .returned (.string (hexS u)) ∧ Below w.heap.size w w' := by
  have HT := Aside0.mk hT
  have HU := Aside0.mk hu
  clear hT hu
  go_enter Tryd.func76, Tryd.ntmps76
  go_wp2_with (go_at_call 89; refine (formatBits_any u HU.out _ HT.out).mono ?_; rintro e w' ⟨rfl, hb⟩; have HB := Aside0.mk hb; clear hb)
  go_ret
  exact ⟨rfl, HB.out⟩
set_option maxHeartbeats 4000000 in
set_option maxRecDepth 100000 in
theorem iFormatInt_any (u : Nat) (hu : u < 2 ^ 63) (w : World) (hT : TabN w) : Calls Tryd.prog 77 #[.int .i64 u, .int .i64 16] w fun e w' => e = .returned (.string (hexS u)) ∧ Below w.heap.size w w' := by
  have HT := Aside0.mk hT
  have HU := Aside0.mk hu
  have hw : IntKind.u64.wrap (u : Int) = (u : Int) := by rw [IntKind.wrap_u64]; omega
  have hn : decide ((u : Int) < 0) = false := decide_eq_false (by omega)
  clear hT hu
  go_enter Tryd.func77, Tryd.ntmps77
  go_wp2_with (go_at_call 89; refine (formatBits_any u (by have := HU.out; omega) _ HT.out).mono ?_; rintro e w' ⟨rfl, hb⟩; have HB := Aside0.mk hb; clear hb)
  go_ret
  exact ⟨rfl, HB.out⟩
set_option maxHeartbeats 4000000 in
set_option maxRecDepth 100000 in
theorem FormatUint_any (u : Nat) (hu : u < 2 ^ 64) (w : World) (hT : TabN w) : Calls Tryd.prog 66 #[.int .u64 u, .int .i64 16] w fun e w' => e = .returned (.string (hexS u)) ∧ Below w.heap.size w w' := by
  have HT := Aside0.mk hT
  have HU := Aside0.mk hu
  clear hT hu
  go_enter Tryd.func66, Tryd.ntmps66
  go_wp2_with (go_at_call 76; refine (iFormatUint_any u HU.out _ HT.out).mono ?_; rintro e w' ⟨rfl, hb⟩; have HB := Aside0.mk hb; clear hb)
  go_ret
  exact ⟨rfl, HB.out⟩
set_option maxHeartbeats 4000000 in
set_option maxRecDepth 100000 in
theorem FormatInt_any (u : Nat) (hu : u < 2 ^ 63) (w : World) (hT : TabN w) : Calls Tryd.prog 67 #[.int .i64 u, .int .i64 16] w fun e w' => e = .returned (.string (hexS u)) ∧ Below w.heap.size w w' := by
  have HT := Aside0.mk hT
  have HU := Aside0.mk hu
  clear hT hu
  go_enter Tryd.func67, Tryd.ntmps67
  go_wp2_with (go_at_call 77; refine (iFormatInt_any u HU.out _ HT.out).mono ?_; rintro e w' ⟨rfl, hb⟩; have HB := Aside0.mk hb; clear hb)
  go_ret
  exact ⟨rfl, HB.out⟩
end Go.Proofs.YtglaagoblcpggaaDoor.R
