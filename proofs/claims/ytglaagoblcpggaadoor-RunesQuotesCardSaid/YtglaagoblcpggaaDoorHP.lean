/- runes.Pieces: the closure that collects, and the function. -/
import Derived.Test.YtglaagoblcpggaaDoorHE
import Derived.Test.YtglaagoblcpggaaDoorF35
set_option linter.unusedVariables false
set_option linter.unusedSimpArgs false
namespace Go.Proofs.YtglaagoblcpggaaDoor.R
open Go.RowKit Go.Proofs.YtglaagoblcpggaaDoorW.PrintWords
set_option maxHeartbeats 4000000 in
set_option maxRecDepth 100000 in
theorem pieces1_any (B base : Nat) (p0 p1 p2 : Int) (p3 : Bool) (w : World) (v : Value) (xs : List S35) (hB : w.heap[B]? = some (.cells #[v] 24 (0, 0)))
    (hR : Kd.R k35 35 w base (fun k_ => k_ ≠ B) v xs) (hbase : base ≤ w.heap.size) (hl : xs.length < 4398046511104) :
    Calls Tryd.prog 37 #[.agg #[.int .i32 p0, .int .i64 p1, .int .i64 p2, .bool p3], .pointer (some ⟨B, 0, none⟩)] w fun e w' => ∃ v', e = .returned (.bool true) ∧ w'.heap[B]? = some (.cells #[v'] 24 (0, 0)) ∧ Kd.R k35 35 w' base (fun k_ => k_ ≠ B) v' (xs ++ [⟨p0, p1, p2, p3⟩]) ∧ (∀ k, k < base → k ≠ B → w'.heap[k]? = w.heap[k]?) ∧ Below 0 w w' := by
  have hc : w.cell? ⟨B, 0, none⟩ = some v := (blk_cell hB 0).trans rfl
  have hu24 := Tryd.underlying24
  have hu35 := Tryd.underlying35
  have hlt := Aside0.mk (blk_lt hB)
  have HB0 := Aside0.mk hB
  have HR := Aside0.mk hR
  have HL := Aside0.mk hl
  have HBA := Aside0.mk hbase
  clear hB hR hl hbase
  go_enter Tryd.func37, Tryd.ntmps37
  go_wp2_with (first
    | ((with_reducible refine gate_dst (N := 2) rfl ?_); refine box_event ?hg (N := 2) ?hd (cs := #[.int .i32 p0, .int .i64 p1, .int .i64 p2, .bool p3]) (t := 35) ?hr ?_; (case hd => rfl); (case hg => rfl); (case hr => first | (go_simp; done) | (go_simp; rfl)); intro gb hg w6 hbox hb; have hc0 : w6.cell? ⟨gb, 0, none⟩ = some (.int .i32 p0) := (blk_cell hbox 0).trans rfl; have hc1 : w6.cell? ⟨gb, 1, none⟩ = some (.int .i64 p1) := (blk_cell hbox 1).trans rfl; have hc2 : w6.cell? ⟨gb, 2, none⟩ = some (.int .i64 p2) := (blk_cell hbox 2).trans rfl; have hc3 : w6.cell? ⟨gb, 3, none⟩ = some (.bool p3) := (blk_cell hbox 3).trans rfl; have hcB := pw_cell_below hb hc; have HG := Aside0.mk hg; have HBW := Aside0.mk hb; have HBX := Aside0.mk hbox; clear hg hb hbox)
    | ((with_reducible refine gate_builtin (b := .append) (xs := #[.tmp 4, .tmp 6]) rfl ?_); at_builtin; refine Kd.R_append k35 (w0 := w) base rfl (.tmp 4) (.tmp 6) 24 35 (.agg #[(.int .i32 0), (.int .i64 0), (.int .i64 0), (.bool false)]) 32 rfl Tryd.underlying24 info35 rfl (by decide) (by omega) v xs (⟨p0, p1, p2, p3⟩ : S35) [.int .i32 p0, .int .i64 p1, .int .i64 p2, .bool p3] (fun k_ => k_ ≠ B) (fun _ => False) rfl (by first | (go_simp; done) | (go_simp; rfl)) ?aP (fun _ hk => hk.elim) ?aF ?aO ?aB ?aS ?aL ?_; (case aP => exact k35_mkM _ _ _ (⟨p0, p1, p2, p3⟩ : S35)); (case aF => exact fun k hk => by have := hlt.out; have := HBW.out.size; omega); (case aO => exact Kd.R_below HR.out HBW.out); (case aB => exact HBW.out.mono HBA.out); (case aS => exact Nat.le_trans HBA.out HBW.out.size); (case aL => have := HL.out; omega); intro v1 w8 ho hb hg _; obtain ⟨A1, c1, e1⟩ := Kd.R_slice ho; subst e1; have h8 := blk_grown (blk_below HB0.out HBW.out) hg (Kd.R_away HR.out (fun _ hk => hk)); have hc8 : w8.cell? ⟨B, 0, none⟩ = some v := (blk_cell h8 0).trans rfl; have hf8 := blk_frozen h8 0; have H8 := Aside0.mk h8; have HO8 := Aside0.mk ho; have HB8 := Aside0.mk hb; clear h8 ho hb hg)
    | (go_at_call 99; fail))
  go_ret
  have e9 : (xs ++ [(⟨p0, p1, p2, p3⟩ : S35)]).length = xs.length + 1 := by simp
  have h9 := HO8.out
  rw [e9] at h9
  refine ⟨_, rfl, blk_set H8.out 0 _, Kd.R_far h9 (fun _ hk => hk) _, fun k hk hne => ?_, ?_⟩
  · rw [Below.heap_setCell _ _ _ _ hne]
    exact HB8.out.block k hk
  · exact (HB8.out.mono (Nat.zero_le _)).setCell (Nat.zero_le _) _

theorem TabU.of_blocks {w w' : World} (h : TabU w) (hb : ∀ k, k < 2 → w'.heap[k]? = w.heap[k]?) : TabU w' := by
  have hc : ∀ (g : Nat) (o : Nat), g < 2 → w'.cell? ⟨g, o, none⟩ = w.cell? ⟨g, o, none⟩ := fun g o hg => World.cell?_of_block (w := w) (hb g hg)
  exact ⟨fun c h1 => (hc 0 c (by omega)).trans (h.1 c h1), fun i h1 => ⟨(hc 1 _ (by omega)).trans (h.2 i h1).1, (hc 1 _ (by omega)).trans (h.2 i h1).2⟩⟩

/-- What holds of the variable that collects, at a place of the text: we: the world in which each begins. -/
structure PcI (B K : Nat) (s : ByteArray) (we : World) (i : Nat) (W : World) : Prop where
  some_ : ∃ v xs, W.heap[B]? = some (.cells #[v] 24 (0, 0)) ∧ Kd.R k35 35 W (K + 1) (fun k_ => k_ ≠ B) v xs ∧ xs ++ (pos s i).map (piece s) = pieces s
  frame : ∀ k, k < K → k ≠ B → W.heap[k]? = we.heap[k]?
  rest : Below 0 we W
theorem pieces_length (s : ByteArray) : (pieces s).length ≤ s.size := by
  have := pos_length s 0 (by omega)
  unfold pieces
  simpa using this

theorem PcI.apart {B K : Nat} {s : ByteArray} {we : World} {i : Nat} {W W' : World} (h : PcI B K s we i W) (hBK : B < K) (hKw : K ≤ we.heap.size) (ha : Apart K W W') : PcI B K s we i W' := by
  obtain ⟨⟨v, xs, hB, hR, hx⟩, hf, hr⟩ := h
  have hsz := hr.size
  refine ⟨⟨v, xs, (ha.block B (blk_lt hB) (by omega)).trans hB, ?_, hx⟩, fun k hk hn => (ha.block k (by omega) (by omega)).trans (hf k hk hn), ?_⟩
  · exact Kd.R_mono (Kd.R_step (Kd.R_bound hR) (fun k hk hlt => ha.block k hlt (by have := hk.2.1; omega))) (fun _ hk => hk.1)
  · exact ⟨ha.os.trans hr.os, ha.tape.trans hr.tape, ha.output.trans hr.output, Nat.le_trans hr.size ha.size, fun k hk => absurd hk (Nat.not_lt_zero _)⟩

/-- each over the closure of Pieces. -/
theorem pieces_each (s : ByteArray) (hs : s.size ≤ 65536) (B : Nat) (w : World) (hTU : TabU w) (hB2 : 2 ≤ B) (hB : w.heap[B]? = some (.cells #[.slice none 0 0] 24 (0, 0))) :
    Calls Tryd.prog 36 #[.string s, .func (.func 37) #[] #[.pointer (some ⟨B, 0, none⟩)]] w fun e w' => e = .returned (.tuple #[]) ∧ PcI B w.heap.size s w s.size w' ∧ TabU w' := by
  have hBK := blk_lt hB
  refine each_any s (by omega) 37 #[.pointer (some ⟨B, 0, none⟩)] (fun args w => by kernel_rfl) (PcI B w.heap.size s w) (PcI B w.heap.size s w s.size) w hTU ?_ ?_ ?_ ?_
  · refine ⟨⟨_, [], blk_alloc hB _, Kd.R_nil _ _ _ _ _, by simp [pieces]⟩, fun k hk _ => Below.heap_alloc w _ k hk, (Below.refl 0 w).alloc (Nat.zero_le _) _⟩
  · exact fun i W W' h ha => h.apart hBK (Nat.le_refl _) ha
  · intro i W h hi
    obtain ⟨⟨v, xs, h1, h2, h3⟩, h4, h5⟩ := h
    refine ⟨⟨v, xs, h1, h2, ?_⟩, h4, h5⟩
    rw [pos_end s i (by omega)] at h3
    rw [pos_end s s.size (Nat.le_refl _)]
    exact h3
  · intro i W hi h ht hit
    obtain ⟨⟨v, xs, h1, h2, h3⟩, h4, h5⟩ := h
    have hl := congrArg List.length h3
    have hp := pieces_length s
    rw [List.length_append] at hl
    refine (pieces1_any B (w.heap.size + 1) _ _ _ _ W v xs h1 h2 (blk_lt hit) (by omega)).mono ?_
    rintro e W' ⟨v', rfl, g1, g2, g3, g4⟩
    refine ⟨true, rfl, fun _ => ⟨⟨v', _, g1, g2, ?_⟩, fun k hk hn => (g3 k (by omega) hn).trans (h4 k hk hn), h5.trans g4⟩, (fun h => by cases h), ht.of_blocks (fun k hk => g3 k (by omega) (by omega)), (g3 _ (by omega) (by omega)).trans hit⟩
    rw [pos_step s i hi] at h3
    rw [← h3]
    simp [piece]

def runes_Pieces.f (a0 : ByteArray) : Option (List S35 × Int) := if (a0.size : Int) > 65536 then some ([], 3) else some (pieces a0, 0)

set_option maxHeartbeats 4000000 in
set_option maxRecDepth 100000 in
theorem runes_Pieces.calls (a0 : ByteArray) (r1 : List S35) (r2 : Int) (w : World) (hTU : TabU w) (h : runes_Pieces.f a0 = some (r1, r2)) :
    Calls Tryd.prog 13 #[.string a0] w fun e w' => ∃ v0_ : Value, e = .returned (.tuple #[v0_, .int .i64 r2]) ∧ Kd.R k35 35 w' w.heap.size (fun _ => True) v0_ r1 ∧ Below w.heap.size w w' := by
  have HTU := Aside0.mk hTU
  clear hTU
  have hu24 := Tryd.underlying24
  unfold runes_Pieces.f at h
  by_cases c : (a0.size : Int) > 65536
  · rw [if_pos c] at h
    obtain ⟨rfl, rfl⟩ := Prod.mk.inj (Option.some.inj h)
    have hl := Aside0.mk (show runes_long.f a0 = some 3 by unfold runes_long.f; rw [if_pos c])
    clear h c
    go_enter Tryd.func13, Tryd.ntmps13
    go_wp2_with (go_at_call 35; refine (runes_long.calls a0 3 _ hl.out).mono ?_; rintro e w' ⟨rfl, ⟨nd, rfl⟩⟩)
    go_ret2
    exact ⟨_, rfl, Kd.R_nil _ _ _ _ _, pw_below_drewN (Below.refl _ _) _⟩
  · rw [if_neg c] at h
    obtain ⟨rfl, rfl⟩ := Prod.mk.inj (Option.some.inj h)
    have hl := Aside0.mk (show runes_long.f a0 = some 0 by unfold runes_long.f; rw [if_neg c])
    have hs := Aside0.mk (show a0.size ≤ 65536 by omega)
    clear h c
    go_enter Tryd.func13, Tryd.ntmps13
    go_wp2_with (go_at_call 35; refine (runes_long.calls a0 0 _ hl.out).mono ?_; rintro e w' ⟨rfl, ⟨nd, rfl⟩⟩)
    have hb0 : Below w.heap.size w ((w.drewN nd).alloc (.cells #[.slice none 0 0] 24)) := (pw_below_drewN (Below.refl _ _) nd).alloc (Nat.le_refl _) _
    have hB : ((w.drewN nd).alloc (.cells #[.slice none 0 0] 24)).heap[w.heap.size]? = some (.cells #[.slice none 0 0] 24 (0, 0)) := blk_new (w.drewN nd) _
    refine (pieces_each a0 hs.out w.heap.size _ (HTU.out.below hb0) HTU.out.two hB).mono ?_
    rintro e w9 ⟨rfl, ⟨⟨v, xs, h1, h2, h3⟩, h4, h5⟩, h6⟩
    rw [pos_end a0 a0.size (Nat.le_refl _), List.map_nil, List.append_nil] at h3
    subst h3
    have hsz : ((w.drewN nd).alloc (.cells #[.slice none 0 0] 24)).heap.size = w.heap.size + 1 := by simp [World.alloc, World.drewN]
    rw [hsz] at h2 h4
    obtain ⟨A1, c1, e1⟩ := Kd.R_slice h2
    subst e1
    have hc : w9.cell? ⟨w.heap.size, 0, none⟩ = _ := (blk_cell h1 0).trans rfl
    have H2 := Aside0.mk h2
    have H4 := Aside0.mk h4
    have H5 := Aside0.mk (hb0.mono (Nat.zero_le _) |>.trans h5)
    have H0 := Aside0.mk hb0
    clear h1 h2 h4 h5 hb0 hB hsz
    go_wp2
    go_ret2
    refine ⟨_, rfl, Kd.R_mono (Kd.R_lower H2.out (by omega)) (fun _ _ => trivial), H5.out.os, H5.out.tape, H5.out.output, H5.out.size, fun k hk => ?_⟩
    exact (H4.out k (by omega) (by omega)).trans (H0.out.block k hk)
end Go.Proofs.YtglaagoblcpggaaDoor.R
