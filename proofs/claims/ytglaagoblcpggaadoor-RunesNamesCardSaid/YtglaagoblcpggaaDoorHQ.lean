/- runes.Part: the closure that tells a piece's place, and the function. -/
import Derived.Test.YtglaagoblcpggaaDoorHP
set_option linter.unusedVariables false
set_option linter.unusedSimpArgs false
namespace Go.Proofs.YtglaagoblcpggaaDoor.R
open Go.RowKit Go.Proofs.YtglaagoblcpggaaDoorW.PrintWords

/-- Where the piece of a number begins; behind the last one: the text's end. -/
def place (s : ByteArray) (i : Int) : Int := if i = ((pieces s).length : Int) then (s.size : Int) else (rd_T35 (pieces s) i).f1

set_option maxHeartbeats 4000000 in
set_option maxRecDepth 100000 in
theorem place_any (s : ByteArray) (i : Int) (Bl Bs : Nat) (A : Option Addr) (c : Nat) (w : World) (hl : w.cell? ⟨Bl, 0, none⟩ = some (.slice A (pieces s).length c)) (hs : w.cell? ⟨Bs, 0, none⟩ = some (.string s))
    (hC : Kd.C k35 w A (pieces s).length (pieces s)) (h0 : 0 ≤ i) (h1 : i ≤ ((pieces s).length : Int)) :
    Calls Tryd.prog 40 #[.int .i64 i, .pointer (some ⟨Bl, 0, none⟩), .pointer (some ⟨Bs, 0, none⟩)] w fun e w' => e = .returned (.int .i64 (place s i)) ∧ w' = w := by
  have hu24 := Tryd.underlying24
  have hu35 := Tryd.underlying35
  obtain ⟨r, hr⟩ : ∃ r, place s i = r := ⟨_, rfl⟩
  rw [hr]
  by_cases e : i = ((pieces s).length : Int)
  · have hb : (i == ((pieces s).length : Int)) = true := beq_iff_eq.2 e
    unfold place at hr
    rw [if_pos e] at hr
    have HR := Aside0.mk hr
    clear hC h0 h1 e hr
    go_enter Tryd.func40, Tryd.ntmps40
    go_wp2
    go_ret
    exact ⟨by rw [← HR.out]; rfl, rfl⟩
  · have hb : (i == ((pieces s).length : Int)) = false := beq_eq_false_iff_ne.2 e
    unfold place at hr
    rw [if_neg e] at hr
    have h2 : i < ((pieces s).length : Int) := by omega
    obtain ⟨ad, rfl, _, g1, _, _⟩ := at_T35 hC i h0 (by omega)
    rw [hr] at g1
    clear hC e hr
    go_enter Tryd.func40, Tryd.ntmps40
    go_wp2
    go_ret
    exact ⟨rfl, rfl⟩

def runes_Part.f (a0 : ByteArray) (a1 a2 : Int) : Option (ByteArray × Int) :=
  if (a0.size : Int) > 65536 then some (⟨#[]⟩, 3) else if a1 < 0 ∨ a2 < a1 ∨ ((pieces a0).length : Int) < a2 then some (⟨#[]⟩, 10)
  else some (a0.extract (place a0 a1).toNat (place a0 a2).toNat, 0)

theorem pos_le_pos (s : ByteArray) (i : Nat) : ∀ (a b : Nat) (x y : Nat), a ≤ b → (pos s i)[a]? = some x → (pos s i)[b]? = some y → x ≤ y :=
  by_pieces s (P := fun i => ∀ (a b : Nat) (x y : Nat), a ≤ b → (pos s i)[a]? = some x → (pos s i)[b]? = some y → x ≤ y) (fun i h a b x y _ hx _ => by rw [pos_end s i h] at hx; simp at hx) (fun i h ih a b x y hab hx hy => by
    rw [pos_step s i h] at hx hy
    have hge : ∀ (i b y : Nat), (pos s i)[b]? = some y → i ≤ y := by
      intro i
      refine by_pieces s (P := fun i => ∀ (b y : Nat), (pos s i)[b]? = some y → i ≤ y) (fun i h b y hy => by rw [pos_end s i h] at hy; simp at hy) (fun i h ih b y hy => ?_) i
      rw [pos_step s i h] at hy
      cases b with
      | zero => simp at hy; omega
      | succ b => have := ih b y (by simpa using hy); omega
    cases b with
    | zero =>
      obtain rfl : a = 0 := by omega
      simp at hx hy
      omega
    | succ b =>
      cases a with
      | zero =>
        have := hge _ b y (by simpa using hy)
        simp at hx
        omega
      | succ a => exact ih a b x y (by omega) (by simpa using hx) (by simpa using hy)) i
theorem place_at (s : ByteArray) (a x : Nat) (h : (pos s 0)[a]? = some x) : place s a = x := by
  have hl := (List.getElem?_eq_some_iff.1 h).1
  have hn : (pieces s).length = (pos s 0).length := by simp [pieces]
  unfold place
  rw [if_neg (by omega), rd_at _ a (piece s x) (by simp [pieces, h])]
  rfl
theorem place_bounds (s : ByteArray) (a b : Int) (h0 : 0 ≤ a) (h1 : a ≤ b) (h2 : b ≤ ((pieces s).length : Int)) : 0 ≤ place s a ∧ place s a ≤ place s b ∧ place s b ≤ (s.size : Int) := by
  have hn : (pieces s).length = (pos s 0).length := by simp [pieces]
  have one : ∀ a : Int, 0 ≤ a → a < ((pieces s).length : Int) → ∃ x : Nat, (pos s 0)[a.toNat]? = some x ∧ place s a = x ∧ x < s.size := by
    intro a ha hb
    have hlt : a.toNat < (pos s 0).length := by omega
    refine ⟨(pos s 0)[a.toNat], by simp [hlt], ?_, pos_lt s 0 _ (List.getElem_mem hlt)⟩
    have := place_at s a.toNat (pos s 0)[a.toNat] (by simp [hlt])
    rwa [show ((a.toNat : Nat) : Int) = a by omega] at this
  have atEnd : place s ((pieces s).length : Int) = (s.size : Int) := by unfold place; rw [if_pos rfl]
  by_cases ea : a = ((pieces s).length : Int)
  · obtain rfl : b = ((pieces s).length : Int) := by omega
    rw [ea, atEnd]
    omega
  · obtain ⟨x, hx, ex, lx⟩ := one a h0 (by omega)
    by_cases eb : b = ((pieces s).length : Int)
    · rw [eb, atEnd, ex]
      omega
    · obtain ⟨y, hy, ey, ly⟩ := one b (by omega) (by omega)
      have := pos_le_pos s 0 a.toNat b.toNat x y (by omega) hx hy
      rw [ex, ey]
      omega

set_option maxHeartbeats 4000000 in
set_option maxRecDepth 100000 in
theorem runes_Part.calls (a0 : ByteArray) (a1 a2 : Int) (r1 : ByteArray) (r2 : Int) (w : World) (hTU : TabU w) (h : runes_Part.f a0 a1 a2 = some (r1, r2)) :
    Calls Tryd.prog 19 #[.string a0, .int .i64 a1, .int .i64 a2] w fun e w' => e = .returned (.tuple #[.string r1, .int .i64 r2]) ∧ Below w.heap.size w w' := by
  have HTU := Aside0.mk hTU
  clear hTU
  have hu24 := Tryd.underlying24
  unfold runes_Part.f at h
  by_cases c : (a0.size : Int) > 65536
  · rw [if_pos c] at h
    obtain ⟨rfl, rfl⟩ := Prod.mk.inj (Option.some.inj h)
    have hl := Aside0.mk (show runes_Pieces.f a0 = some ([], 3) by unfold runes_Pieces.f; rw [if_pos c])
    clear h c
    go_enter Tryd.func19, Tryd.ntmps19
    go_wp2_with (first | ((with_reducible refine gate_dst (N := 3) rfl ?_); refine box_event ?hg (N := 3) ?hd (cs := #[.string a0]) (t := 9) ?hr ?_; (case hd => rfl); (case hg => rfl); (case hr => first | (go_simp; done) | (go_simp; rfl)); intro gs hg w6 hbox hb; have hc0 : w6.cell? ⟨gs, 0, none⟩ = some (.string a0) := (blk_cell hbox 0).trans rfl; have HG := Aside0.mk hg; have HBX := Aside0.mk hbox; have HBW := Aside0.mk hb; clear hg hb hbox) | (go_at_call 13; refine (runes_Pieces.calls a0 [] 3 _ (HTU.out.below HBW.out) hl.out).mono ?_; rintro e w7 ⟨v7, rfl, g1, g2⟩; obtain ⟨A7, c7, rfl⟩ := Kd.R_slice g1; have HB7 := Aside0.mk (below_step HBW.out g2); clear g1 g2) | ((with_reducible refine gate_dst (N := 8) rfl ?_); refine box_event ?hg (N := 8) ?hd (cs := #[.slice none 0 0]) (t := 24) ?hr ?_; (case hd => rfl); (case hg => rfl); (case hr => first | (go_simp; done) | (go_simp; rfl)); intro gl hg w8 hbox hb; have hd0 : w8.cell? ⟨gl, 0, none⟩ = some (.slice none 0 0) := (blk_cell hbox 0).trans rfl; have hf0 := blk_frozen hbox 0; have HGL := Aside0.mk (show w.heap.size ≤ gl by rw [hg]; exact HB7.out.size); have HB8 := Aside0.mk (below_step HB7.out hb); clear hg hb hbox))
    go_ret2
    exact ⟨rfl, below_set HB8.out HGL.out⟩
  · rw [if_neg c] at h
    have hl := Aside0.mk (show runes_Pieces.f a0 = some (pieces a0, 0) by unfold runes_Pieces.f; rw [if_neg c])
    by_cases cc : a1 < 0 ∨ a2 < a1 ∨ ((pieces a0).length : Int) < a2
    · rw [if_pos cc] at h
      obtain ⟨rfl, rfl⟩ := Prod.mk.inj (Option.some.inj h)
      by_cases c1 : a1 < 0
      · have b1 : decide (a1 < 0) = true := decide_eq_true c1
        clear h c cc
        go_enter Tryd.func19, Tryd.ntmps19
        go_wp2_with (first | ((with_reducible refine gate_dst (N := 3) rfl ?_); refine box_event ?hg (N := 3) ?hd (cs := #[.string a0]) (t := 9) ?hr ?_; (case hd => rfl); (case hg => rfl); (case hr => first | (go_simp; done) | (go_simp; rfl)); intro gs hg w6 hbox hb; have hc0 : w6.cell? ⟨gs, 0, none⟩ = some (.string a0) := (blk_cell hbox 0).trans rfl; have HG := Aside0.mk hg; have HBX := Aside0.mk hbox; have HBW := Aside0.mk hb; clear hg hb hbox)       | (go_at_call 13; refine (runes_Pieces.calls a0 (pieces a0) 0 _ (HTU.out.below HBW.out) hl.out).mono ?_; rintro e w7 ⟨v7, rfl, g1, g2⟩; obtain ⟨A7, c7, rfl⟩ := Kd.R_slice g1; have HB7 := Aside0.mk (below_step HBW.out g2); have HBS := Aside0.mk (blk_below HBX.out g2); have HR7 := Aside0.mk g1; clear g1 g2)       | ((with_reducible refine gate_dst (N := 8) rfl ?_); refine box_event ?hg (N := 8) ?hd (cs := #[.slice none 0 0]) (t := 24) ?hr ?_; (case hd => rfl); (case hg => rfl); (case hr => first | (go_simp; done) | (go_simp; rfl)); intro gl hg w8 hbox hb; have hd0 : w8.cell? ⟨gl, 0, none⟩ = some (.slice none 0 0) := (blk_cell hbox 0).trans rfl; have hf0 := blk_frozen hbox 0; have HGL := Aside0.mk (show w.heap.size ≤ gl by rw [hg]; exact HB7.out.size); have HB8 := Aside0.mk (below_step HB7.out hb); have HR8 := Aside0.mk (Kd.R_below HR7.out hb); have HBS8 := Aside0.mk (blk_below HBS.out hb); have HGX := Aside0.mk hg; have HBL := Aside0.mk hbox; clear hg hb hbox))
        go_ret2
        exact ⟨rfl, below_set HB8.out HGL.out⟩
      · have b1 : decide (a1 < 0) = false := decide_eq_false c1
        by_cases c2 : a2 < a1
        · have b2 : decide (a2 < a1) = true := decide_eq_true c2
          clear h c cc
          go_enter Tryd.func19, Tryd.ntmps19
          go_wp2_with (first | ((with_reducible refine gate_dst (N := 3) rfl ?_); refine box_event ?hg (N := 3) ?hd (cs := #[.string a0]) (t := 9) ?hr ?_; (case hd => rfl); (case hg => rfl); (case hr => first | (go_simp; done) | (go_simp; rfl)); intro gs hg w6 hbox hb; have hc0 : w6.cell? ⟨gs, 0, none⟩ = some (.string a0) := (blk_cell hbox 0).trans rfl; have HG := Aside0.mk hg; have HBX := Aside0.mk hbox; have HBW := Aside0.mk hb; clear hg hb hbox)       | (go_at_call 13; refine (runes_Pieces.calls a0 (pieces a0) 0 _ (HTU.out.below HBW.out) hl.out).mono ?_; rintro e w7 ⟨v7, rfl, g1, g2⟩; obtain ⟨A7, c7, rfl⟩ := Kd.R_slice g1; have HB7 := Aside0.mk (below_step HBW.out g2); have HBS := Aside0.mk (blk_below HBX.out g2); have HR7 := Aside0.mk g1; clear g1 g2)       | ((with_reducible refine gate_dst (N := 8) rfl ?_); refine box_event ?hg (N := 8) ?hd (cs := #[.slice none 0 0]) (t := 24) ?hr ?_; (case hd => rfl); (case hg => rfl); (case hr => first | (go_simp; done) | (go_simp; rfl)); intro gl hg w8 hbox hb; have hd0 : w8.cell? ⟨gl, 0, none⟩ = some (.slice none 0 0) := (blk_cell hbox 0).trans rfl; have hf0 := blk_frozen hbox 0; have HGL := Aside0.mk (show w.heap.size ≤ gl by rw [hg]; exact HB7.out.size); have HB8 := Aside0.mk (below_step HB7.out hb); have HR8 := Aside0.mk (Kd.R_below HR7.out hb); have HBS8 := Aside0.mk (blk_below HBS.out hb); have HGX := Aside0.mk hg; have HBL := Aside0.mk hbox; clear hg hb hbox))
          go_ret2
          exact ⟨rfl, below_set HB8.out HGL.out⟩
        · have b2 : decide (a2 < a1) = false := decide_eq_false c2
          have b3 : decide (((pieces a0).length : Int) < a2) = true := decide_eq_true (by omega)
          clear h c cc
          go_enter Tryd.func19, Tryd.ntmps19
          go_wp2_with (first | ((with_reducible refine gate_dst (N := 3) rfl ?_); refine box_event ?hg (N := 3) ?hd (cs := #[.string a0]) (t := 9) ?hr ?_; (case hd => rfl); (case hg => rfl); (case hr => first | (go_simp; done) | (go_simp; rfl)); intro gs hg w6 hbox hb; have hc0 : w6.cell? ⟨gs, 0, none⟩ = some (.string a0) := (blk_cell hbox 0).trans rfl; have HG := Aside0.mk hg; have HBX := Aside0.mk hbox; have HBW := Aside0.mk hb; clear hg hb hbox)       | (go_at_call 13; refine (runes_Pieces.calls a0 (pieces a0) 0 _ (HTU.out.below HBW.out) hl.out).mono ?_; rintro e w7 ⟨v7, rfl, g1, g2⟩; obtain ⟨A7, c7, rfl⟩ := Kd.R_slice g1; have HB7 := Aside0.mk (below_step HBW.out g2); have HBS := Aside0.mk (blk_below HBX.out g2); have HR7 := Aside0.mk g1; clear g1 g2)       | ((with_reducible refine gate_dst (N := 8) rfl ?_); refine box_event ?hg (N := 8) ?hd (cs := #[.slice none 0 0]) (t := 24) ?hr ?_; (case hd => rfl); (case hg => rfl); (case hr => first | (go_simp; done) | (go_simp; rfl)); intro gl hg w8 hbox hb; have hd0 : w8.cell? ⟨gl, 0, none⟩ = some (.slice none 0 0) := (blk_cell hbox 0).trans rfl; have hf0 := blk_frozen hbox 0; have HGL := Aside0.mk (show w.heap.size ≤ gl by rw [hg]; exact HB7.out.size); have HB8 := Aside0.mk (below_step HB7.out hb); have HR8 := Aside0.mk (Kd.R_below HR7.out hb); have HBS8 := Aside0.mk (blk_below HBS.out hb); have HGX := Aside0.mk hg; have HBL := Aside0.mk hbox; clear hg hb hbox))
          go_ret2
          exact ⟨rfl, below_set HB8.out HGL.out⟩
    · rw [if_neg cc] at h
      obtain ⟨rfl, rfl⟩ := Prod.mk.inj (Option.some.inj h)
      have b1 : decide (a1 < 0) = false := decide_eq_false (by omega)
      have b2 : decide (a2 < a1) = false := decide_eq_false (by omega)
      have b3 : decide (((pieces a0).length : Int) < a2) = false := decide_eq_false (by omega)
      have hp := place_bounds a0 a1 a2 (by omega) (by omega) (by omega)
      obtain ⟨x1, hx1⟩ : ∃ x, place a0 a1 = x := ⟨_, rfl⟩
      obtain ⟨x2, hx2⟩ : ∃ x, place a0 a2 = x := ⟨_, rfl⟩
      rw [hx1, hx2] at hp ⊢
      obtain ⟨p0, p1, p2⟩ := hp
      have P1 := Aside0.mk hx1
      have P2 := Aside0.mk hx2
      have CC := Aside0.mk cc
      clear h c cc hx1 hx2
      go_enter Tryd.func19, Tryd.ntmps19
      go_upto_region 7 with (first | ((with_reducible refine gate_dst (N := 3) rfl ?_); refine box_event ?hg (N := 3) ?hd (cs := #[.string a0]) (t := 9) ?hr ?_; (case hd => rfl); (case hg => rfl); (case hr => first | (go_simp; done) | (go_simp; rfl)); intro gs hg w6 hbox hb; have hc0 : w6.cell? ⟨gs, 0, none⟩ = some (.string a0) := (blk_cell hbox 0).trans rfl; have HG := Aside0.mk hg; have HBX := Aside0.mk hbox; have HBW := Aside0.mk hb; clear hg hb hbox)       | (go_at_call 13; refine (runes_Pieces.calls a0 (pieces a0) 0 _ (HTU.out.below HBW.out) hl.out).mono ?_; rintro e w7 ⟨v7, rfl, g1, g2⟩; obtain ⟨A7, c7, rfl⟩ := Kd.R_slice g1; have HB7 := Aside0.mk (below_step HBW.out g2); have HBS := Aside0.mk (blk_below HBX.out g2); have HR7 := Aside0.mk g1; clear g1 g2)       | ((with_reducible refine gate_dst (N := 8) rfl ?_); refine box_event ?hg (N := 8) ?hd (cs := #[.slice none 0 0]) (t := 24) ?hr ?_; (case hd => rfl); (case hg => rfl); (case hr => first | (go_simp; done) | (go_simp; rfl)); intro gl hg w8 hbox hb; have hd0 : w8.cell? ⟨gl, 0, none⟩ = some (.slice none 0 0) := (blk_cell hbox 0).trans rfl; have hf0 := blk_frozen hbox 0; have HGL := Aside0.mk (show w.heap.size ≤ gl by rw [hg]; exact HB7.out.size); have HB8 := Aside0.mk (below_step HB7.out hb); have HR8 := Aside0.mk (Kd.R_below HR7.out hb); have HBS8 := Aside0.mk (blk_below HBS.out hb); have HGX := Aside0.mk hg; have HBL := Aside0.mk hbox; clear hg hb hbox))
      have hne : gs ≠ gl := by have h1 := blk_lt HBS.out; have h2 := HGX.out; omega
      have hcs : (w8.setCell ⟨gl, 0, none⟩ (.slice A7 (pieces a0).length c7)).cell? ⟨gs, 0, none⟩ = some (.string a0) := (blk_cell (blk_far HBS8.out (p := ⟨gl, 0, none⟩) hne _) 0).trans rfl
      have hcl : (w8.setCell ⟨gl, 0, none⟩ (.slice A7 (pieces a0).length c7)).cell? ⟨gl, 0, none⟩ = some (.slice A7 (pieces a0).length c7) := (blk_cell (blk_set HBL.out 0 _) 0).trans rfl
      have hC := (Kd.R_reads' (Kd.R_set HR8.out HBL.out (by decide) 0 (.slice A7 (pieces a0).length c7))).2.2
      have hbW := below_set (j := 0) (v := .slice A7 (pieces a0).length c7) HB8.out HGL.out
      obtain ⟨W, hW⟩ : ∃ W, w8.setCell ⟨gl, 0, none⟩ (.slice A7 (pieces a0).length c7) = W := ⟨_, rfl⟩
      rw [hW] at hcs hcl hC hbW ⊢
      have HBW2 := Aside0.mk hbW
      have C1 := fun n => Aside0.mk (place_any a0 a1 gl gs A7 c7 (W.drewN n) hcl hcs (Kd.C_drewN hC n) (by have := CC.out; omega) (by have := CC.out; omega))
      have C2 := fun n => Aside0.mk (place_any a0 a2 gl gs A7 c7 (W.drewN n) hcl hcs (Kd.C_drewN hC n) (by have := CC.out; omega) (by have := CC.out; omega))
      simp only [P1.out] at C1
      simp only [P2.out] at C2
      clear hW hne hcl hC hbW HBL HGX HBS8 HR8 HB8 hd0 hf0 HR7 HBS HB7 HBW HBX hc0 HG b1 b2 b3
      go_quiet ((first | (go_at_call 40; with_reducible exact Calls.quiet_of_same (C1 _).out) | (go_at_call 40; with_reducible exact Calls.quiet_of_same (C2 _).out)))
      go_wp2
      go_ret2
      exact ⟨rfl, pw_below_drewN HBW2.out _⟩

end Go.Proofs.YtglaagoblcpggaaDoor.R
