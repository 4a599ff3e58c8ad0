/- runes.each: whatever closure is handed to it goes over the pieces of the text: a contract over an invariant of the caller's. -/
import Derived.Test.YtglaagoblcpggaaDoorHU
import Derived.Test.YtglaagoblcpggaaDoorPa2
import Derived.Test.YtglaagoblcpggaaDoorShV
import Derived.Lib.OthersKept
set_option linter.unusedVariables false
set_option linter.unusedSimpArgs false
namespace Go.Proofs.YtglaagoblcpggaaDoor.R
open Go.RowKit Go.Proofs.YtglaagoblcpggaaDoorW.PrintWords
/-- The world moved on, and of what lay in it nothing but one block has turned. -/
structure Apart (K : Nat) (w w' : World) : Prop where
  os : w'.os = w.os
  tape : w'.tape = w.tape
  output : w'.output = w.output
  size : w.heap.size ≤ w'.heap.size
  block : ∀ k, k < w.heap.size → k ≠ K → w'.heap[k]? = w.heap[k]?
theorem Apart.refl (K : Nat) (w : World) : Apart K w w := ⟨rfl, rfl, rfl, Nat.le_refl _, fun _ _ _ => rfl⟩
theorem Apart.below {K : Nat} {w a b : World} (h : Apart K w a) (hb : Below a.heap.size a b) : Apart K w b :=
  ⟨hb.os.trans h.os, hb.tape.trans h.tape, hb.output.trans h.output, Nat.le_trans h.size hb.size, fun k hk hn => (hb.block k (Nat.lt_of_lt_of_le hk h.size)).trans (h.block k hk hn)⟩
theorem Apart.setCell {K : Nat} {w a : World} (h : Apart K w a) {p : Addr} (hp : w.heap.size ≤ p.block) (u : Value) : Apart K w (a.setCell p u) :=
  ⟨h.os, h.tape, h.output, by have := h.size; simpa [World.setCell] using this, fun k hk hn => (Below.heap_setCell _ _ _ _ (by omega)).trans (h.block k hk hn)⟩
theorem Apart.iter (w : World) (K : Nat) (s : ByteArray) (pos : Nat) : Apart K w (w.iterAt K s pos) := ⟨rfl, rfl, rfl, by rw [Lib.iterAt_size]; exact Nat.le_refl _, fun k _ hn => Lib.iterAt_other w K k s pos hn⟩
theorem TabU.apart {K : Nat} {w w' : World} (h : TabU w) (ha : Apart K w w') (hK : 2 ≤ K) (hl : 2 ≤ w.heap.size) : TabU w' := by
  have hc : ∀ (g : Nat) (o : Nat), g < 2 → w'.cell? ⟨g, o, none⟩ = w.cell? ⟨g, o, none⟩ := fun g o hg => World.cell?_of_block (w := w) (ha.block g (by omega) (by omega))
  exact ⟨fun c h1 => (hc 0 c (by omega)).trans (h.1 c h1), fun i h1 => ⟨(hc 1 _ (by omega)).trans (h.2 i h1).1, (hc 1 _ (by omega)).trans (h.2 i h1).2⟩⟩
theorem TabU.two {w : World} (h : TabU w) : 2 ≤ w.heap.size := by
  have := World.block_lt_of_cell? _ _ (h.2 0 (by omega)).1
  exact this

theorem dec_at (s : ByteArray) (pos : Nat) (h : pos < s.size) (w : World) (hT : TabU w) : Calls Tryd.prog 25 #[.string (s.extract pos s.size)] w fun e w' => e = .returned (.tuple #[.int .i32 (dc s pos).1, .int .i64 (dc s pos).2]) ∧ Below w.heap.size w w' :=
  utf8_DecodeRuneInString.calls _ _ _ w hT (go_tail s pos h)
/-- What a closure over pieces leaves: it goes on, or it has said no. -/
def EachPost (I : Nat → World → Prop) (Done : World → Prop) (s : ByteArray) (pos K : Nat) (e : Ending) (W' : World) : Prop :=
  ∃ b, e = .returned (.bool b) ∧ (b = true → I (pos + (dc s pos).2) W') ∧ (b = false → Done W') ∧ TabU W' ∧ W'.heap[K]? = some (.stringIter s (pos + (dc s pos).2))

set_option maxHeartbeats 4000000 in
set_option maxRecDepth 100000 in
theorem each_any (s : ByteArray) (hs : s.size ≤ 140737488351232) (g : Nat) (lb : Array Value) (eg : ∀ args w, (callFunc g args).run Tryd.prog w = .ok (.enter g args) w) (I : Nat → World → Prop) (Done : World → Prop) (w : World) (hTU : TabU w)
    (h0 : I 0 (w.iter s 0))
    (hst : ∀ pos W W', I pos W → Apart w.heap.size W W' → I pos W')
    (hend : ∀ pos W, I pos W → ¬ pos < s.size → Done W)
    (hstep : ∀ pos W, pos < s.size → I pos W → TabU W → W.heap[w.heap.size]? = some (.stringIter s (pos + (dc s pos).2)) →
      Calls Tryd.prog g (#[.agg #[.int .i32 (dc s pos).1, .int .i64 pos, .int .i64 (dc s pos).2, .bool (decide (dc s pos = bad))]] ++ lb) W (EachPost I Done s pos w.heap.size)) :
    Calls Tryd.prog 36 #[.string s, .func (.func g) #[] lb] w fun e w' => e = .returned (.tuple #[]) ∧ Done w' ∧ TabU w' := by
  have HT := Aside0.mk hTU
  have H0 := Aside0.mk h0
  have HST := Aside0.mk hst
  have HEND := Aside0.mk hend
  have HSTEP := Aside0.mk hstep
  have HS := Aside0.mk hs
  clear hTU h0 hst hend hstep hs
  go_enter Tryd.func36, Tryd.ntmps36
  go_wp2
  go_loopw [] (fun wr => ∃ (pos : Nat), Aside0 (wr.heap[w.heap.size]? = some (.stringIter s pos)) ∧ Aside0 (I pos wr) ∧ Aside0 (TabU wr)) (fun wr => s.size - wr.iterPos w.heap.size)
  case atStart => exact ⟨0, ⟨World.iter_heap w s 0⟩, H0, ⟨HT.out.below (below_alloc (Below.refl _ _) _)⟩⟩
  case round =>
    obtain ⟨pos, hit, HI, HTr⟩ := hrel
    by_cases hp : pos < s.size
    · have hnx : ∀ ty, (Instr.next (.pointer (some ⟨w.heap.size, 0, none⟩)) true ty).run Tryd.prog wr = _ := fun ty => Lib.run_next_any_at wr w.heap.size s pos ty hit.out hp
      have A1 := Aside0.mk (Apart.iter wr w.heap.size s (pos + (dc s pos).2))
      have hit1 := Aside0.mk (Lib.iterAt_heap wr w.heap.size s pos (pos + (dc s pos).2) hit.out)
      change ∀ ty, (Instr.next (.pointer (some ⟨w.heap.size, 0, none⟩)) true ty).run Tryd.prog wr = .ok (.tuple #[.bool true, .int .i64 pos, .int .i32 (dc s pos).1]) (wr.iterAt w.heap.size s (pos + (dc s pos).2)) at hnx
      obtain ⟨w1, hw1⟩ : ∃ w1, wr.iterAt w.heap.size s (pos + (dc s pos).2) = w1 := ⟨_, rfl⟩
      rw [hw1] at A1 hit1 hnx
      clear hw1
      by_cases hr : (dc s pos).1 = 65533
      · have hrb : (((dc s pos).1 : Int) == 65533) = true := beq_iff_eq.2 (by omega)
        have hln := Aside0.mk (show Lib.runeLen ((dc s pos).1 : Int) = 3 by rw [hr]; rfl)
        have NE := Aside0.mk (show ∀ gb, wr.heap.size ≤ gb → w.heap.size ≠ gb from fun gb h => by have := blk_lt hit.out; omega)
        have hpl : (pos : Int) ≤ (s.size : Int) := by omega
        by_cases hn : (dc s pos).2 = 1
        · have hnb : (((dc s pos).2 : Int) == 1) = true := beq_iff_eq.2 (by omega)
          have hbf := Aside0.mk (show decide (dc s pos = bad) = true from decide_eq_true ((bad_iff s pos hp).2 ⟨hr, hn⟩))
          have HN := Aside0.mk hn
          clear hr hn
          go_wp2_with (first | (go_at_call 52; refine (Tryd.utf8_RuneLen _ _).mono ?_; rw [hln.out]; rintro e w' ⟨rfl, rfl⟩) | ((with_reducible refine gate_dst (N := 6) rfl ?_); refine box_event ?hg (N := 6) ?hd (cs := #[.int .i32 0, .int .i64 0, .int .i64 0, .bool false]) (t := 35) ?hr ?_; (case hd => rfl); (case hg => rfl); (case hr => first | (go_simp; done) | (go_simp; rfl)); intro gb hg w6 hbox hb; have HG := Aside0.mk (show wr.heap.size ≤ gb by rw [hg]; exact A1.out.size); have A2 := Aside0.mk (A1.out.below hb); have hit2 := Aside0.mk (blk_below hit1.out hb); have hc0 : w6.cell? ⟨gb, 0, none⟩ = some (.int .i32 0) := (blk_cell hbox 0).trans rfl; have hc1 : w6.cell? ⟨gb, 1, none⟩ = some (.int .i64 0) := (blk_cell hbox 1).trans rfl; have hc2 : w6.cell? ⟨gb, 2, none⟩ = some (.int .i64 0) := (blk_cell hbox 2).trans rfl; have hc3 : w6.cell? ⟨gb, 3, none⟩ = some (.bool false) := (blk_cell hbox 3).trans rfl; have hf0 := blk_frozen hbox 0; have hf1 := blk_frozen hbox 1; have hf2 := blk_frozen hbox 2; have hf3 := blk_frozen hbox 3; have HBX := Aside0.mk hbox; clear hg hb hbox) | (go_at_call 25; refine (dec_at s pos hp _ ?tb).mono ?_; (case tb => exact HTr.out.apart ((((A2.out.setCell (p := ⟨gb, 0, none⟩) HG.out (.int .i32 (dc s pos).1)).setCell (p := ⟨gb, 1, none⟩) HG.out (.int .i64 pos)).setCell (p := ⟨gb, 2, none⟩) HG.out (.int .i64 3)).setCell (p := ⟨gb, 3, none⟩) HG.out (.bool false)) HT.out.two (Nat.le_trans HT.out.two (Nat.le_of_lt (blk_lt hit.out)))); rintro e w7 ⟨rfl, hb7⟩; have hbx7 := blk_below (blk_set (blk_set (blk_set (blk_set HBX.out 0 (.int .i32 (dc s pos).1)) 1 (.int .i64 pos)) 2 (.int .i64 3)) 3 (.bool false)) hb7; have A7 := Aside0.mk (((((A2.out.setCell (p := ⟨gb, 0, none⟩) HG.out (.int .i32 (dc s pos).1)).setCell (p := ⟨gb, 1, none⟩) HG.out (.int .i64 pos)).setCell (p := ⟨gb, 2, none⟩) HG.out (.int .i64 3)).setCell (p := ⟨gb, 3, none⟩) HG.out (.bool false)).below hb7); have hd0 : w7.cell? ⟨gb, 0, none⟩ = some (.int .i32 (dc s pos).1) := (blk_cell hbx7 0).trans rfl; have hd1 : w7.cell? ⟨gb, 1, none⟩ = some (.int .i64 pos) := (blk_cell hbx7 1).trans rfl; have hd2 : w7.cell? ⟨gb, 2, none⟩ = some (.int .i64 3) := (blk_cell hbx7 2).trans rfl; have hd3 : w7.cell? ⟨gb, 3, none⟩ = some (.bool false) := (blk_cell hbx7 3).trans rfl; have he2 := blk_frozen hbx7 2; have he3 := blk_frozen hbx7 3; have hit7 := Aside0.mk (blk_below (((hit2.out |> fun h => (Below.heap_setCell _ ⟨gb, 0, none⟩ (.int .i32 (dc s pos).1) _ (NE.out gb HG.out)).trans h) |> fun h => (Below.heap_setCell _ ⟨gb, 1, none⟩ (.int .i64 pos) _ (NE.out gb HG.out)).trans h) |> fun h => (Below.heap_setCell _ ⟨gb, 3, none⟩ (.bool false) _ (NE.out gb HG.out)).trans ((Below.heap_setCell _ ⟨gb, 2, none⟩ (.int .i64 3) _ (NE.out gb HG.out)).trans h)) hb7); clear hb7 hbx7))
          have A9 := (A7.out.setCell (p := ⟨gb, 2, none⟩) HG.out (.int .i64 1)).setCell (p := ⟨gb, 3, none⟩) HG.out (.bool true)
          have hit9 := (Below.heap_setCell _ ⟨gb, 3, none⟩ (.bool true) _ (NE.out gb HG.out)).trans ((Below.heap_setCell _ ⟨gb, 2, none⟩ (.int .i64 1) _ (NE.out gb HG.out)).trans hit7.out)
          have hS := HSTEP.out pos _ hp (HST.out _ _ _ HI.out A9) (HTr.out.apart A9 HT.out.two (Nat.le_trans HT.out.two (Nat.le_of_lt (blk_lt hit.out)))) hit9
          rw [hbf.out, show (((dc s pos).2 : Nat) : Int) = 1 by have := HN.out; omega] at hS
          clear A9 hit9
          refine hS.mono ?_
          clear hS
          rintro e W' ⟨b, rfl, hgo, hno, ht', hit'⟩
          cases b with
          | true =>
            have HGO := Aside0.mk (hgo rfl)
            have HIT := Aside0.mk hit'
            have HT' := Aside0.mk ht'
            clear hgo hno ht' hit'
            go_wp2
            go_roundw
            case rel => exact ⟨_, HIT, HGO, HT'⟩
            case measure =>
              have := dc_bounds s pos hp
              simp only [World.iterPos, HIT.out, hit.out]
              omega
          | false =>
            have HNO := Aside0.mk (hno rfl)
            have HT' := Aside0.mk ht'
            clear hgo hno ht' hit'
            go_wp2
            refine bodyPost_ret (results_none rfl _ _ _) rfl ?_
            exact ⟨rfl, HNO.out, HT'.out⟩
        · have hnb : (((dc s pos).2 : Int) == 1) = false := beq_eq_false_iff_ne.2 (by omega)
          have h3 : (dc s pos).2 = 3 := by rcases dc_form s pos with h | h | h | h | h <;> first | (exact absurd (by rw [h]; rfl) hn) | omega
          have hbf := Aside0.mk (show decide (dc s pos = bad) = false from decide_eq_false (fun e => hn (by rw [e]; rfl)))
          have HN := Aside0.mk h3
          clear hr hn h3
          go_wp2_with (first | (go_at_call 52; refine (Tryd.utf8_RuneLen _ _).mono ?_; rw [hln.out]; rintro e w' ⟨rfl, rfl⟩) | ((with_reducible refine gate_dst (N := 6) rfl ?_); refine box_event ?hg (N := 6) ?hd (cs := #[.int .i32 0, .int .i64 0, .int .i64 0, .bool false]) (t := 35) ?hr ?_; (case hd => rfl); (case hg => rfl); (case hr => first | (go_simp; done) | (go_simp; rfl)); intro gb hg w6 hbox hb; have HG := Aside0.mk (show wr.heap.size ≤ gb by rw [hg]; exact A1.out.size); have A2 := Aside0.mk (A1.out.below hb); have hit2 := Aside0.mk (blk_below hit1.out hb); have hc0 : w6.cell? ⟨gb, 0, none⟩ = some (.int .i32 0) := (blk_cell hbox 0).trans rfl; have hc1 : w6.cell? ⟨gb, 1, none⟩ = some (.int .i64 0) := (blk_cell hbox 1).trans rfl; have hc2 : w6.cell? ⟨gb, 2, none⟩ = some (.int .i64 0) := (blk_cell hbox 2).trans rfl; have hc3 : w6.cell? ⟨gb, 3, none⟩ = some (.bool false) := (blk_cell hbox 3).trans rfl; have hf0 := blk_frozen hbox 0; have hf1 := blk_frozen hbox 1; have hf2 := blk_frozen hbox 2; have hf3 := blk_frozen hbox 3; have HBX := Aside0.mk hbox; clear hg hb hbox) | (go_at_call 25; refine (dec_at s pos hp _ ?tb).mono ?_; (case tb => exact HTr.out.apart ((((A2.out.setCell (p := ⟨gb, 0, none⟩) HG.out (.int .i32 (dc s pos).1)).setCell (p := ⟨gb, 1, none⟩) HG.out (.int .i64 pos)).setCell (p := ⟨gb, 2, none⟩) HG.out (.int .i64 3)).setCell (p := ⟨gb, 3, none⟩) HG.out (.bool false)) HT.out.two (Nat.le_trans HT.out.two (Nat.le_of_lt (blk_lt hit.out)))); rintro e w7 ⟨rfl, hb7⟩; have hbx7 := blk_below (blk_set (blk_set (blk_set (blk_set HBX.out 0 (.int .i32 (dc s pos).1)) 1 (.int .i64 pos)) 2 (.int .i64 3)) 3 (.bool false)) hb7; have A7 := Aside0.mk (((((A2.out.setCell (p := ⟨gb, 0, none⟩) HG.out (.int .i32 (dc s pos).1)).setCell (p := ⟨gb, 1, none⟩) HG.out (.int .i64 pos)).setCell (p := ⟨gb, 2, none⟩) HG.out (.int .i64 3)).setCell (p := ⟨gb, 3, none⟩) HG.out (.bool false)).below hb7); have hd0 : w7.cell? ⟨gb, 0, none⟩ = some (.int .i32 (dc s pos).1) := (blk_cell hbx7 0).trans rfl; have hd1 : w7.cell? ⟨gb, 1, none⟩ = some (.int .i64 pos) := (blk_cell hbx7 1).trans rfl; have hd2 : w7.cell? ⟨gb, 2, none⟩ = some (.int .i64 3) := (blk_cell hbx7 2).trans rfl; have hd3 : w7.cell? ⟨gb, 3, none⟩ = some (.bool false) := (blk_cell hbx7 3).trans rfl; have he2 := blk_frozen hbx7 2; have he3 := blk_frozen hbx7 3; have hit7 := Aside0.mk (blk_below (((hit2.out |> fun h => (Below.heap_setCell _ ⟨gb, 0, none⟩ (.int .i32 (dc s pos).1) _ (NE.out gb HG.out)).trans h) |> fun h => (Below.heap_setCell _ ⟨gb, 1, none⟩ (.int .i64 pos) _ (NE.out gb HG.out)).trans h) |> fun h => (Below.heap_setCell _ ⟨gb, 3, none⟩ (.bool false) _ (NE.out gb HG.out)).trans ((Below.heap_setCell _ ⟨gb, 2, none⟩ (.int .i64 3) _ (NE.out gb HG.out)).trans h)) hb7); clear hb7 hbx7))
          have hS := HSTEP.out pos _ hp (HST.out _ _ _ HI.out A7.out) (HTr.out.apart A7.out HT.out.two (Nat.le_trans HT.out.two (Nat.le_of_lt (blk_lt hit.out)))) hit7.out
          rw [hbf.out, show (((dc s pos).2 : Nat) : Int) = 3 by have := HN.out; omega] at hS
          refine hS.mono ?_
          clear hS
          rintro e W' ⟨b, rfl, hgo, hno, ht', hit'⟩
          cases b with
          | true =>
            have HGO := Aside0.mk (hgo rfl)
            have HIT := Aside0.mk hit'
            have HT' := Aside0.mk ht'
            clear hgo hno ht' hit'
            go_wp2
            go_roundw
            case rel => exact ⟨_, HIT, HGO, HT'⟩
            case measure =>
              have := dc_bounds s pos hp
              simp only [World.iterPos, HIT.out, hit.out]
              omega
          | false =>
            have HNO := Aside0.mk (hno rfl)
            have HT' := Aside0.mk ht'
            clear hgo hno ht' hit'
            go_wp2
            refine bodyPost_ret (results_none rfl _ _ _) rfl ?_
            exact ⟨rfl, HNO.out, HT'.out⟩
      · have hrb : (((dc s pos).1 : Int) == 65533) = false := beq_eq_false_iff_ne.2 (by omega)
        have hln := Aside0.mk (runeLen_dc s pos hr)
        have hbf := Aside0.mk (show decide (dc s pos = bad) = false from decide_eq_false (fun e => hr (by rw [e]; rfl)))
        go_wp2_with (first | (go_at_call 52; refine (Tryd.utf8_RuneLen _ _).mono ?_; rw [hln.out]; rintro e w' ⟨rfl, rfl⟩) | ((with_reducible refine gate_dst (N := 6) rfl ?_); refine box_event ?hg (N := 6) ?hd (cs := #[.int .i32 0, .int .i64 0, .int .i64 0, .bool false]) (t := 35) ?hr ?_; (case hd => rfl); (case hg => rfl); (case hr => first | (go_simp; done) | (go_simp; rfl)); intro gb hg w6 hbox hb; have HG := Aside0.mk (show wr.heap.size ≤ gb by rw [hg]; exact A1.out.size); have A2 := Aside0.mk (A1.out.below hb); have hit2 := Aside0.mk (blk_below hit1.out hb); have hc0 : w6.cell? ⟨gb, 0, none⟩ = some (.int .i32 0) := (blk_cell hbox 0).trans rfl; have hc1 : w6.cell? ⟨gb, 1, none⟩ = some (.int .i64 0) := (blk_cell hbox 1).trans rfl; have hc2 : w6.cell? ⟨gb, 2, none⟩ = some (.int .i64 0) := (blk_cell hbox 2).trans rfl; have hc3 : w6.cell? ⟨gb, 3, none⟩ = some (.bool false) := (blk_cell hbox 3).trans rfl; have hf0 := blk_frozen hbox 0; have hf1 := blk_frozen hbox 1; have hf2 := blk_frozen hbox 2; have hf3 := blk_frozen hbox 3; clear hg hb hbox))
        have A3 := Aside0.mk ((((A2.out.setCell (p := ⟨gb, 0, none⟩) HG.out (.int .i32 (dc s pos).1)).setCell (p := ⟨gb, 1, none⟩) HG.out (.int .i64 pos)).setCell (p := ⟨gb, 2, none⟩) HG.out (.int .i64 (dc s pos).2)).setCell (p := ⟨gb, 3, none⟩) HG.out (.bool false))
        have hK := blk_lt hit.out
        have hne : w.heap.size ≠ gb := by have := HG.out; omega
        have hit3 : ((((w6.setCell ⟨gb, 0, none⟩ (.int .i32 (dc s pos).1)).setCell ⟨gb, 1, none⟩ (.int .i64 pos)).setCell ⟨gb, 2, none⟩ (.int .i64 (dc s pos).2)).setCell ⟨gb, 3, none⟩ (.bool false)).heap[w.heap.size]? = some (.stringIter s (pos + (dc s pos).2)) := by
          rw [Below.heap_setCell _ _ _ _ hne, Below.heap_setCell _ _ _ _ hne, Below.heap_setCell _ _ _ _ hne, Below.heap_setCell _ _ _ _ hne]
          exact hit2.out
        have hS := HSTEP.out pos _ hp (HST.out _ _ _ HI.out A3.out) (HTr.out.apart A3.out HT.out.two (Nat.le_trans HT.out.two (Nat.le_of_lt hK))) hit3
        rw [hbf.out] at hS
        clear hK hne hit3 A3
        refine hS.mono ?_
        clear hS
        rintro e W' ⟨b, rfl, hgo, hno, ht', hit'⟩
        cases b with
        | true =>
          have HGO := Aside0.mk (hgo rfl)
          have HIT := Aside0.mk hit'
          have HT' := Aside0.mk ht'
          clear hgo hno ht' hit'
          go_wp2
          go_roundw
          case rel => exact ⟨_, HIT, HGO, HT'⟩
          case measure =>
            have := dc_bounds s pos hp
            simp only [World.iterPos, HIT.out, hit.out]
            omega
        | false =>
          have HNO := Aside0.mk (hno rfl)
          have HT' := Aside0.mk ht'
          clear hgo hno ht' hit'
          go_wp2
          refine bodyPost_ret (results_none rfl _ _ _) rfl ?_
          exact ⟨rfl, HNO.out, HT'.out⟩
    · have hnx : ∀ ty, (Instr.next (.pointer (some ⟨w.heap.size, 0, none⟩)) true ty).run Tryd.prog wr = _ := fun ty => Lib.run_next_end_at wr w.heap.size s pos ty hit.out hp
      have HD := Aside0.mk (HEND.out pos wr HI.out hp)
      go_wp2
      go_end0
      exact ⟨rfl, HD.out, HTr.out⟩
end Go.Proofs.YtglaagoblcpggaaDoor.R
