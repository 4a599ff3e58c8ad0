/- The reference's Part: what it computes. -/
import Derived.Test.YtglaagoblcpggaaDoorHQ
import Derived.Test.YtglaagoblcpggaaDoorPb
import Derived.Test.YtglaagoblcpggaaDoorF14
import Derived.StillTailTactics
set_option linter.unusedVariables false
set_option linter.unusedSimpArgs false
namespace Go.Proofs.YtglaagoblcpggaaDoor.R
open Go.RowKit Go.Proofs.YtglaagoblcpggaaDoorW.PrintWords

theorem refPieces_big (s : ByteArray) (h : (s.size : Int) > 65536) (k : Nat) : cognateref01_Pieces.f k s = some ([], 3) := by
  unfold cognateref01_Pieces.f
  rw [if_pos h]
theorem refPieces_eq (s : ByteArray) (h : ¬ (s.size : Int) > 65536) (k : Nat) (hk : s.size + 11 ≤ k) : cognateref01_Pieces.f k s = some (pieces s, 0) := by
  unfold cognateref01_Pieces.f
  rw [if_neg h, All_eq s (by omega) k hk]
  rfl

def cognateref01_Part.f (a0 : ByteArray) (a1 a2 : Int) : Option (ByteArray × Int) := runes_Part.f a0 a1 a2

theorem place_step (s : ByteArray) (i : Nat) (h : i < (pieces s).length) : (rd_T35 (pieces s) i).f1 = place s i ∧ (rd_T35 (pieces s) i).f1 + (rd_T35 (pieces s) i).f2 = place s (i + 1 : Nat) := by
  have hn : (pieces s).length = (pos s 0).length := by simp [pieces]
  have key : ∀ (j : Nat) (i x : Nat), (pos s j)[i]? = some x → j ≤ s.size → ((pos s j)[i + 1]? = some (x + (dc s x).2)) ∨ ((pos s j).length = i + 1 ∧ x + (dc s x).2 = s.size) := by
    intro j
    refine by_pieces s (P := fun j => ∀ (i x : Nat), (pos s j)[i]? = some x → j ≤ s.size → ((pos s j)[i + 1]? = some (x + (dc s x).2)) ∨ ((pos s j).length = i + 1 ∧ x + (dc s x).2 = s.size)) (fun j h i x hx _ => by rw [pos_end s j h] at hx; simp at hx) (fun j h ih i x hx hj => ?_) j
    have hb := dc_bounds s j h
    rw [pos_step s j h] at hx ⊢
    cases i with
    | zero =>
      simp at hx
      subst hx
      by_cases e : j + (dc s j).2 < s.size
      · left
        rw [List.getElem?_cons_succ, pos_step s _ e]
        rfl
      · right
        rw [pos_end s _ (by omega)]
        exact ⟨rfl, by omega⟩
    | succ i =>
      rcases ih i x (by simpa using hx) (by omega) with h1 | ⟨h1, h2⟩
      · left; simpa using h1
      · right; exact ⟨by simp [h1], h2⟩
  have hlt : i < (pos s 0).length := by omega
  have hx : (pos s 0)[i]? = some (pos s 0)[i] := by simp [hlt]
  have hr := rd_at (pieces s) i (piece s (pos s 0)[i]) (by simp [pieces, hlt])
  rw [hr]
  refine ⟨(place_at s i _ hx).symm, ?_⟩
  show (((pos s 0)[i] : Nat) : Int) + ((dc s (pos s 0)[i]).2 : Int) = _
  rcases key 0 i _ hx (by omega) with h1 | ⟨h1, h2⟩
  · rw [place_at s (i + 1) _ h1]; omega
  · unfold place
    rw [if_pos (by omega)]
    omega

theorem bytes_none (s : ByteArray) (i : Nat) : bytesOf (s.extract i i) = [] := by
  simp [bytesOf, ByteArray.data_extract]
theorem bytes_more (s : ByteArray) (i j k : Nat) (h1 : i ≤ j) (h2 : j ≤ k) : bytesOf (s.extract i j) ++ bytesOf (s.extract j k) = bytesOf (s.extract i k) := by
  unfold bytesOf
  rw [← List.map_append]
  congr 1
  simp only [ByteArray.data_extract, ← Array.toList_append, Array.extract_append_extract]
  congr 2 <;> omega
theorem string_of_bytes (s : ByteArray) : strOfNums (bytesOf s) = s := by
  unfold strOfNums bytesOf
  cases s with
  | mk d =>
    simp [Function.comp_def]

set_option maxHeartbeats 4000000 in
set_option maxRecDepth 100000 in
theorem cognateref01_Part.calls (a0 : ByteArray) (a1 a2 : Int) (r1 : ByteArray) (r2 : Int) (w : World) (h : cognateref01_Part.f a0 a1 a2 = some (r1, r2)) :
    Calls Tryd.prog 20 #[.string a0, .int .i64 a1, .int .i64 a2] w fun e w' => e = .returned (.tuple #[.string r1, .int .i64 r2]) ∧ Below w.heap.size w w' := by
  have hu24 := Tryd.underlying24
  have hu35 := Tryd.underlying35
  unfold cognateref01_Part.f runes_Part.f at h
  by_cases c : (a0.size : Int) > 65536
  · rw [if_pos c] at h
    obtain ⟨rfl, rfl⟩ := Prod.mk.inj (Option.some.inj h)
    have hl := Aside0.mk (refPieces_big a0 c 0)
    clear h c
    go_enter Tryd.func20, Tryd.ntmps20
    go_wp2_with (go_at_call 14; refine (cognateref01_Pieces.calls 0 a0 [] 3 _ hl.out).mono ?_; rintro e w7 ⟨v7, rfl, g1, g2⟩; obtain ⟨A7, c7, rfl⟩ := Kd.R_slice g1; have HB7 := Aside0.mk g2; clear g1 g2)
    go_ret2
    exact ⟨rfl, HB7.out⟩
  · rw [if_neg c] at h
    have hl := Aside0.mk (refPieces_eq a0 c (a0.size + 11) (Nat.le_refl _))
    by_cases cc : a1 < 0 ∨ a2 < a1 ∨ ((pieces a0).length : Int) < a2
    · rw [if_pos cc] at h
      obtain ⟨rfl, rfl⟩ := Prod.mk.inj (Option.some.inj h)
      by_cases c1 : a1 < 0
      · have b1 : decide (a1 < 0) = true := decide_eq_true c1
        clear h c cc
        go_enter Tryd.func20, Tryd.ntmps20
        go_wp2_with (go_at_call 14; refine (cognateref01_Pieces.calls (a0.size + 11) a0 (pieces a0) 0 _ hl.out).mono ?_; rintro e w7 ⟨v7, rfl, g1, g2⟩; obtain ⟨A7, c7, rfl⟩ := Kd.R_slice g1; have HB7 := Aside0.mk g2; clear g1 g2)
        go_ret2
        exact ⟨rfl, HB7.out⟩
      · have b1 : decide (a1 < 0) = false := decide_eq_false c1
        by_cases c2 : a2 < a1
        · have b2 : decide (a2 < a1) = true := decide_eq_true c2
          clear h c cc
          go_enter Tryd.func20, Tryd.ntmps20
          go_wp2_with (go_at_call 14; refine (cognateref01_Pieces.calls (a0.size + 11) a0 (pieces a0) 0 _ hl.out).mono ?_; rintro e w7 ⟨v7, rfl, g1, g2⟩; obtain ⟨A7, c7, rfl⟩ := Kd.R_slice g1; have HB7 := Aside0.mk g2; clear g1 g2)
          go_ret2
          exact ⟨rfl, HB7.out⟩
        · have b2 : decide (a2 < a1) = false := decide_eq_false c2
          have b3 : decide (((pieces a0).length : Int) < a2) = true := decide_eq_true (by omega)
          clear h c cc
          go_enter Tryd.func20, Tryd.ntmps20
          go_wp2_with (go_at_call 14; refine (cognateref01_Pieces.calls (a0.size + 11) a0 (pieces a0) 0 _ hl.out).mono ?_; rintro e w7 ⟨v7, rfl, g1, g2⟩; obtain ⟨A7, c7, rfl⟩ := Kd.R_slice g1; have HB7 := Aside0.mk g2; clear g1 g2)
          go_ret2
          exact ⟨rfl, HB7.out⟩
    · rw [if_neg cc] at h
      obtain ⟨rfl, rfl⟩ := Prod.mk.inj (Option.some.inj h)
      have b1 : decide (a1 < 0) = false := decide_eq_false (by omega)
      have b2 : decide (a2 < a1) = false := decide_eq_false (by omega)
      have b3 : decide (((pieces a0).length : Int) < a2) = false := decide_eq_false (by omega)
      obtain ⟨n1, rfl⟩ : ∃ n : Nat, a1 = n := ⟨a1.toNat, by omega⟩
      obtain ⟨n2, rfl⟩ : ∃ n : Nat, a2 = n := ⟨a2.toNat, by omega⟩
      have CC := Aside0.mk (show n1 ≤ n2 ∧ n2 ≤ (pieces a0).length ∧ (pieces a0).length ≤ 65536 by have := pieces_length a0; omega)
      have CZ := Aside0.mk (show a0.size ≤ 65536 by omega)
      have d2 : decide (n2 < n1) = false := decide_eq_false (by omega)
      have d3 : decide ((pieces a0).length < n2) = false := decide_eq_false (by omega)
      clear h c cc
      go_enter Tryd.func20, Tryd.ntmps20
      go_wp2_with (go_at_call 14; refine (cognateref01_Pieces.calls (a0.size + 11) a0 (pieces a0) 0 _ hl.out).mono ?_; rintro e w7 ⟨v7, rfl, g1, g2⟩; obtain ⟨A7, c7, rfl⟩ := Kd.R_slice g1; have HB7 := Aside0.mk g2; have HC7 := Aside0.mk g1; clear g1 g2)
      clear b1 b2 b3 d2 d3
      go_loopw [10, 11] (fun v i wr => ∃ (n : Nat), i = .int .i64 n ∧ Aside0 (n1 ≤ n ∧ n ≤ n2) ∧ Aside0 (Kd.R (Kd.int .u8) 5 wr w.heap.size (fun _ => True) v (bytesOf (a0.extract (place a0 n1).toNat (place a0 n).toNat))) ∧ Aside0 (Kd.R k35 35 wr w.heap.size (fun _ => True) (.slice A7 (pieces a0).length c7) (pieces a0)) ∧ Aside0 (Below w.heap.size w wr)) (fun _ i _ => n2 - (intOf i).toNat)
      case atStart => exact ⟨n1, rfl, ⟨Nat.le_refl _, CC.out.1⟩, ⟨by rw [bytes_none]; exact Kd.R_nil _ _ _ _ _⟩, HC7, HB7⟩
      case round =>
        obtain ⟨n, rfl, HN, HO, HC, HB⟩ := hrel
        by_cases hlt : n < n2
        · have hb : decide (n < n2) = true := decide_eq_true hlt
          obtain ⟨ad, ead, g0, g1, g2, g3⟩ := at_T35 (Kd.R_reads' HC.out).2.2 (n : Int) (by omega) (by have := CC.out; omega)
          subst ead
          have hst := place_step a0 n (by have := CC.out; omega)
          have hpb := place_bounds a0 n (n + 1 : Nat) (by omega) (by omega) (by have := CC.out; omega)
          rw [hst.1] at g1
          have g2' : wr.cell? ⟨(ad.add ((n : Int).toNat * 4)).block, (ad.add ((n : Int).toNat * 4)).off + 2, none⟩ = some (.int .i64 (rd_T35 (pieces a0) n).f2) := g2
          obtain ⟨x, hx⟩ : ∃ x, place a0 n = x := ⟨_, rfl⟩
          obtain ⟨y, hy⟩ : ∃ y, (rd_T35 (pieces a0) n).f2 = y := ⟨_, rfl⟩
          obtain ⟨z, hz⟩ : ∃ z, place a0 (n + 1 : Nat) = z := ⟨_, rfl⟩
          rw [hst.1, hx, hy, hz] at hst
          rw [hx, hz] at hpb
          rw [hx] at g1
          rw [hy] at g2'
          obtain ⟨q0, q1, q2⟩ := hpb
          have esum : x + y = z := hst.2
          obtain rfl : y = z - x := by omega
          have HX := Aside0.mk hx
          have HZ := Aside0.mk hz
          have HLT := Aside0.mk hlt
          have wr1 : IntKind.i64.wrap (x + (z - x)) = z := by rw [show x + (z - x) = z by omega]; exact IntWalk.i64_in _ (by have := CZ.out; omega)
          clear hst hx hy hz esum g0 g2 g3 hlt
          have hnl : n < (pieces a0).length := by have := CC.out; have := HLT.out; omega
          go_upto_region 10 with (fail)
          simp only [Int.toNat_natCast] at g1 g2'
          go_still_tail 19, (by kernel_rfl)
          change wpList _ _ _ _ _ wr.drew
          refine print_append_str (w0 := w) w.heap.size rfl (.tmp 39) (.tmp 57) 54 9 5 rfl Tryd.underlying54 Tryd.underlying9 info5 u10 (bytesOf (a0.extract (place a0 n1).toNat (place a0 n).toNat)) (a0.extract x.toNat z.toNat) rfl (by first | rfl | (simp; done)) (Kd.own_of_R (Kd.R_drew HO.out)) (below_drew HB.out) HB.out.size (by rw [bytesOf_length]; have := CZ.out; simp only [ByteArray.size_extract]; omega) ?_
          intro v1 w1 ho0 hb hg
          have ho := Kd.R_of_own (h1 := fun _ => rfl) (ok := fun _ => True) ho0 (fun _ _ => trivial)
          rw [← HX.out, bytes_more a0 _ _ _ (by have := place_bounds a0 n1 n (by omega) (by have := HN.out; omega) (by have := HN.out; have := CC.out; omega); omega) (by rw [HX.out]; omega)] at ho
          have HO1 := Aside0.mk ho
          have HB1 := Aside0.mk hb
          have HC1 := Aside0.mk (Kd.R_over' (Kd.R_drew HC.out) (Kd.R_typed (Kd.R_drew HO.out)) (by decide) hg)
          clear ho0 hb hg ho wr1
          have hn6 : n ≤ 65536 := by have := CC.out; omega
          go_wp2
          go_roundw
          case rel => exact ⟨n + 1, by go_num, ⟨by have := HN.out; omega, HLT.out⟩, by rw [HZ.out]; exact HO1, HC1, HB1⟩
          case measure => simp [intOf]; have := HLT.out; omega
        · have hn2 : n = n2 := by have := HN.out; omega
          have hb : decide (n < n2) = false := decide_eq_false hlt
          have hcv := own_string (P := Tryd.prog) Tryd.underlying54 Tryd.underlying5 Tryd.underlying9 (Kd.own_of_R HO.out)
          rw [string_of_bytes, hn2] at hcv
          have HE := Aside0.mk hn2
          clear hn2 hlt
          go_wp2
          go_ret2
          exact ⟨rfl, HB.out⟩
end Go.Proofs.YtglaagoblcpggaaDoor.R
