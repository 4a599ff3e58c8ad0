/- runes.Broken: the closure that looks for a broken piece, and the function. -/
import Derived.Test.YtglaagoblcpggaaDoorHP
set_option linter.unusedVariables false
set_option linter.unusedSimpArgs false
namespace Go.Proofs.YtglaagoblcpggaaDoor.R
open Go.RowKit Go.Proofs.YtglaagoblcpggaaDoorW.PrintWords

/-- Where the first broken piece from a place on is; -1: there is none. -/
def brokenAt (s : ByteArray) (i : Nat) : Int := match (pos s i).find? (fun j => decide (dc s j = bad)) with
  | some j => (j : Int)
  | none => -1
theorem brokenAt_end (s : ByteArray) (i : Nat) (h : s.size ≤ i) : brokenAt s i = -1 := by unfold brokenAt; rw [pos_end s i h]; rfl
theorem brokenAt_bad (s : ByteArray) (i : Nat) (h : i < s.size) (hb : dc s i = bad) : brokenAt s i = i := by
  unfold brokenAt
  rw [pos_step s i h, List.find?_cons_of_pos (by simpa using hb)]
theorem brokenAt_go (s : ByteArray) (i : Nat) (h : i < s.size) (hb : ¬ dc s i = bad) : brokenAt s i = brokenAt s (i + (dc s i).2) := by
  unfold brokenAt
  rw [pos_step s i h, List.find?_cons_of_neg (by simpa using hb)]

set_option maxHeartbeats 4000000 in
set_option maxRecDepth 100000 in
theorem broken1_yes (B : Nat) (p0 p1 p2 : Int) (w : World) (x : Int) (hB : w.heap[B]? = some (.cells #[.int .i64 x] 3 (0, 0))) (hp : 0 ≤ p1) :
    Calls Tryd.prog 39 #[.agg #[.int .i32 p0, .int .i64 p1, .int .i64 p2, .bool true], .pointer (some ⟨B, 0, none⟩)] w fun e w' => e = .returned (.bool false) ∧ w'.heap[B]? = some (.cells #[.int .i64 p1] 3 (0, 0)) ∧ (∀ k, k < w.heap.size → k ≠ B → w'.heap[k]? = w.heap[k]?) ∧ Below 0 w w' := by
  have hc : w.cell? ⟨B, 0, none⟩ = some (.int .i64 x) := (blk_cell hB 0).trans rfl
  have hu3 := Tryd.underlying3
  have hu35 := Tryd.underlying35
  have hlt := Aside0.mk (blk_lt hB)
  have HB0 := Aside0.mk hB
  have hd : decide (p1 < 0) = false := decide_eq_false (by omega)
  clear hB hp
  go_enter Tryd.func39, Tryd.ntmps39
  go_wp2_with ((with_reducible refine gate_dst (N := 2) rfl ?_); refine box_event ?hg (N := 2) ?hd (cs := #[.int .i32 p0, .int .i64 p1, .int .i64 p2, .bool true]) (t := 35) ?hr ?_; (case hd => rfl); (case hg => rfl); (case hr => first | (go_simp; done) | (go_simp; rfl)); intro gb hg w6 hbox hb; have hc1 : w6.cell? ⟨gb, 1, none⟩ = some (.int .i64 p1) := (blk_cell hbox 1).trans rfl; have hc3 : w6.cell? ⟨gb, 3, none⟩ = some (.bool true) := (blk_cell hbox 3).trans rfl; have hcB := pw_cell_below hb hc; have h6 := blk_below HB0.out hb; have hfB := blk_frozen h6 0; have H6 := Aside0.mk h6; have HBW := Aside0.mk hb; clear hg hb hbox h6)
  go_ret
  refine ⟨rfl, blk_set H6.out 0 _, fun k hk hne => ?_, (HBW.out.mono (Nat.zero_le _)).setCell (Nat.zero_le _) _⟩
  rw [Below.heap_setCell _ _ _ _ hne]
  exact HBW.out.block k hk
set_option maxHeartbeats 4000000 in
set_option maxRecDepth 100000 in
theorem broken1_no (B : Nat) (p0 p1 p2 : Int) (w : World) (x : Int) (hB : w.heap[B]? = some (.cells #[.int .i64 x] 3 (0, 0))) (hx : x < 0) :
    Calls Tryd.prog 39 #[.agg #[.int .i32 p0, .int .i64 p1, .int .i64 p2, .bool false], .pointer (some ⟨B, 0, none⟩)] w fun e w' => e = .returned (.bool true) ∧ w'.heap[B]? = some (.cells #[.int .i64 x] 3 (0, 0)) ∧ (∀ k, k < w.heap.size → k ≠ B → w'.heap[k]? = w.heap[k]?) ∧ Below 0 w w' := by
  have hc : w.cell? ⟨B, 0, none⟩ = some (.int .i64 x) := (blk_cell hB 0).trans rfl
  have hu3 := Tryd.underlying3
  have hu35 := Tryd.underlying35
  have HB0 := Aside0.mk hB
  have hd : decide (x < 0) = true := decide_eq_true hx
  clear hB hx
  go_enter Tryd.func39, Tryd.ntmps39
  go_wp2_with ((with_reducible refine gate_dst (N := 2) rfl ?_); refine box_event ?hg (N := 2) ?hd (cs := #[.int .i32 p0, .int .i64 p1, .int .i64 p2, .bool false]) (t := 35) ?hr ?_; (case hd => rfl); (case hg => rfl); (case hr => first | (go_simp; done) | (go_simp; rfl)); intro gb hg w6 hbox hb; have hc1 : w6.cell? ⟨gb, 1, none⟩ = some (.int .i64 p1) := (blk_cell hbox 1).trans rfl; have hc3 : w6.cell? ⟨gb, 3, none⟩ = some (.bool false) := (blk_cell hbox 3).trans rfl; have hcB := pw_cell_below hb hc; have HBW := Aside0.mk hb; clear hg hb hbox)
  go_ret
  exact ⟨rfl, blk_below HB0.out HBW.out, fun k hk _ => HBW.out.block k hk, HBW.out.mono (Nat.zero_le _)⟩

structure BrI (B : Nat) (x : Int) (we W : World) : Prop where
  cell : W.heap[B]? = some (.cells #[.int .i64 x] 3 (0, 0))
  frame : ∀ k, k < we.heap.size → k ≠ B → W.heap[k]? = we.heap[k]?
  rest : Below 0 we W

theorem broken_each (s : ByteArray) (hs : s.size ≤ 65536) (B : Nat) (w : World) (hTU : TabU w) (hB2 : 2 ≤ B) (hB : w.heap[B]? = some (.cells #[.int .i64 (-1)] 3 (0, 0))) :
    Calls Tryd.prog 36 #[.string s, .func (.func 39) #[] #[.pointer (some ⟨B, 0, none⟩)]] w fun e w' => e = .returned (.tuple #[]) ∧ BrI B (brokenAt s 0) w w' ∧ TabU w' := by
  have hBK := blk_lt hB
  refine each_any s (by omega) 39 #[.pointer (some ⟨B, 0, none⟩)] (fun args w => by kernel_rfl) (fun i W => BrI B (-1) w W ∧ brokenAt s i = brokenAt s 0) (BrI B (brokenAt s 0) w) w hTU ?_ ?_ ?_ ?_
  · exact ⟨⟨blk_alloc hB _, fun k hk _ => Below.heap_alloc w _ k hk, (Below.refl 0 w).alloc (Nat.zero_le _) _⟩, rfl⟩
  · rintro i W W' ⟨h, e⟩ ha
    have hsz := h.rest.size
    exact ⟨⟨(ha.block B (blk_lt h.cell) (by omega)).trans h.cell, fun k hk hn => (ha.block k (by omega) (by omega)).trans (h.frame k hk hn), ha.os.trans h.rest.os, ha.tape.trans h.rest.tape, ha.output.trans h.rest.output, Nat.le_trans h.rest.size ha.size, fun k hk => absurd hk (Nat.not_lt_zero _)⟩, e⟩
  · rintro i W ⟨h, e⟩ hi
    rw [brokenAt_end s i (by omega)] at e
    rw [← e]
    exact h
  · rintro i W hi ⟨h, e⟩ ht hit
    have hK := blk_lt hit
    by_cases hb : dc s i = bad
    · rw [decide_eq_true hb]
      refine (broken1_yes B _ _ _ W (-1) h.cell (by omega)).mono ?_
      rintro e' W' ⟨rfl, g1, g2, g3⟩
      refine ⟨false, rfl, (fun h => by cases h), fun _ => ?_, ht.of_blocks (fun k hk => g2 k (by omega) (by omega)), (g2 _ hK (by omega)).trans hit⟩
      rw [← e, brokenAt_bad s i hi hb]
      exact ⟨g1, fun k hk hn => (g2 k (by omega) hn).trans (h.frame k hk hn), h.rest.trans g3⟩
    · rw [decide_eq_false hb]
      refine (broken1_no B _ _ _ W (-1) h.cell (by omega)).mono ?_
      rintro e' W' ⟨rfl, g1, g2, g3⟩
      refine ⟨true, rfl, fun _ => ⟨⟨g1, fun k hk hn => (g2 k (by omega) hn).trans (h.frame k hk hn), h.rest.trans g3⟩, ?_⟩, (fun h => by cases h), ht.of_blocks (fun k hk => g2 k (by omega) (by omega)), (g2 _ hK (by omega)).trans hit⟩
      rw [← brokenAt_go s i hi hb]
      exact e

def runes_Broken.f (a0 : ByteArray) : Option (Int × Int) := if (a0.size : Int) > 65536 then some (0, 3) else some (brokenAt a0 0, 0)

set_option maxHeartbeats 4000000 in
set_option maxRecDepth 100000 in
theorem runes_Broken.calls (a0 : ByteArray) (r1 : Int) (r2 : Int) (w : World) (hTU : TabU w) (h : runes_Broken.f a0 = some (r1, r2)) :
    Calls Tryd.prog 17 #[.string a0] w fun e w' => e = .returned (.tuple #[.int .i64 r1, .int .i64 r2]) ∧ Below w.heap.size w w' := by
  have HTU := Aside0.mk hTU
  clear hTU
  unfold runes_Broken.f at h
  by_cases c : (a0.size : Int) > 65536
  · rw [if_pos c] at h
    obtain ⟨rfl, rfl⟩ := Prod.mk.inj (Option.some.inj h)
    have hl := Aside0.mk (show runes_long.f a0 = some 3 by unfold runes_long.f; rw [if_pos c])
    clear h c
    go_enter Tryd.func17, Tryd.ntmps17
    go_wp2_with (go_at_call 35; refine (runes_long.calls a0 3 _ hl.out).mono ?_; rintro e w' ⟨rfl, ⟨nd, rfl⟩⟩)
    go_ret2
    exact ⟨rfl, pw_below_drewN (Below.refl _ _) _⟩
  · rw [if_neg c] at h
    obtain ⟨rfl, rfl⟩ := Prod.mk.inj (Option.some.inj h)
    have hl := Aside0.mk (show runes_long.f a0 = some 0 by unfold runes_long.f; rw [if_neg c])
    have hs := Aside0.mk (show a0.size ≤ 65536 by omega)
    clear h c
    go_enter Tryd.func17, Tryd.ntmps17
    go_wp2_with (first | (go_at_call 35; refine (runes_long.calls a0 0 _ hl.out).mono ?_; rintro e w' ⟨rfl, ⟨nd, rfl⟩⟩) | ((with_reducible refine gate_dst (N := 5) rfl ?_); refine box_event ?hg (N := 5) ?hd (cs := #[.int .i64 0]) (t := 3) ?hr ?_; (case hd => rfl); (case hg => rfl); (case hr => first | (go_simp; done) | (go_simp; rfl)); intro gb hg w6 hbox hb; have hc0 : w6.cell? ⟨gb, 0, none⟩ = some (.int .i64 0) := (blk_cell hbox 0).trans rfl; have hf0 := blk_frozen hbox 0; have HG := Aside0.mk hg; have HBX := Aside0.mk hbox; have HBW := Aside0.mk (below_step (pw_below_drewN (Below.refl _ w) nd) hb); clear hg hb hbox))
    have hg : gb = w.heap.size := HG.out
    have hb0 : Below w.heap.size w (w6.setCell ⟨gb, 0, none⟩ (.int .i64 (-1))) := below_set HBW.out (by omega)
    have hB := blk_set HBX.out 0 (.int .i64 (-1))
    refine (broken_each a0 hs.out gb _ (HTU.out.below hb0) (by have := HTU.out.two; have e : (w.drewN nd).heap.size = w.heap.size := rfl; omega) hB).mono ?_
    rintro e w9 ⟨rfl, ⟨h1, h4, h5⟩, h6⟩
    have hc : w9.cell? ⟨gb, 0, none⟩ = _ := (blk_cell h1 0).trans rfl
    have H4 := Aside0.mk h4
    have H5 := Aside0.mk (hb0.mono (Nat.zero_le _) |>.trans h5)
    have H0 := Aside0.mk hb0
    clear h1 h4 h5 hb0 hB hg
    go_wp2
    go_ret2
    refine ⟨rfl, H5.out.os, H5.out.tape, H5.out.output, H5.out.size, fun k hk => ?_⟩
    exact (H4.out k (Nat.lt_of_lt_of_le hk H0.out.size) (by have := HG.out; have e : (w.drewN nd).heap.size = w.heap.size := rfl; omega)).trans (H0.out.block k hk)
end Go.Proofs.YtglaagoblcpggaaDoor.R
