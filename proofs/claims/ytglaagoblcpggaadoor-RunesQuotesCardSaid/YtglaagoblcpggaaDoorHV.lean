/- runes.shown, runes.quote's closure, runes.quote. -/
import Derived.Test.YtglaagoblcpggaaDoorHE
import Derived.Test.YtglaagoblcpggaaDoorHP
import Derived.Test.YtglaagoblcpggaaDoorHF
import Derived.Test.YtglaagoblcpggaaDoorHW
set_option linter.unusedVariables false
set_option linter.unusedSimpArgs false
namespace Go.Proofs.YtglaagoblcpggaaDoor.R
open Go.RowKit Go.Proofs.YtglaagoblcpggaaDoorW.PrintWords

/-- What one piece shows: its first byte, its rune, whether it is broken. -/
def showP (b : Nat) (r : Nat) (br : Bool) : ByteArray :=
  if br = true then ⟨#[92, 120]⟩ ++ hexS b
  else if b = 34 then ⟨#[92]⟩ ++ ⟨#[34]⟩
  else if b = 92 then ⟨#[92]⟩ ++ ⟨#[92]⟩
  else if 32 ≤ b ∧ b < 127 then ⟨#[b.toUInt8]⟩
  else ⟨#[92, 117]⟩ ++ hexS r ++ ⟨#[59]⟩

theorem hexGo_length : ∀ f u, (hexGo f u).length ≤ f
  | 0, _ => Nat.le_refl _
  | f + 1, u => by
    unfold hexGo
    split
    · simp
    · have := hexGo_length f (u / 16)
      simp only [List.length_append, List.length_singleton]
      omega
theorem hexS_size (u : Nat) : (hexS u).size ≤ 17 := by
  unfold hexS
  rw [strOfNums_size]
  exact hexGo_length 17 u
theorem enc_small (b : Nat) (h : b < 128) : Utf8.encode (b : Int) = ⟨#[b.toUInt8]⟩ := by
  have : ∀ n : Nat, n < 128 → Utf8.encode (n : Int) = ⟨#[n.toUInt8]⟩ := by decide
  exact this b h

set_option maxHeartbeats 4000000 in
set_option maxRecDepth 100000 in
theorem shown_broken (s : ByteArray) (i : Nat) (b : Nat) (hb8 : b < 256) (hix : ∀ W, (Instr.index 9 (.string s) (.int .i64 i)).run Tryd.prog W = .ok (.int .u8 (b : Int)) W) (p0 : Nat) (h0 : p0 < 2 ^ 31) (p2 : Int) (w : World) (hTN : TabN w) :
    Calls Tryd.prog 56 #[.string s, .agg #[.int .i32 p0, .int .i64 i, .int .i64 p2, .bool true]] w fun e w' => e = .returned (.string (⟨#[92, 120]⟩ ++ hexS b)) ∧ Below w.heap.size w w' := by
  have HT := Aside0.mk hTN
  have H0 := Aside0.mk h0
  have hu35 := Tryd.underlying35
  have hw : IntKind.u64.wrap (b : Int) = (b : Int) := by rw [IntKind.wrap_u64]; omega
  have hsz := hexS_size b
  clear hTN h0
  go_enter Tryd.func56, Tryd.ntmps56
  go_wp2_with (first | ((with_reducible refine gate_dst (N := 3) rfl ?_); refine box_event ?hg (N := 3) ?hd (cs := #[.int .i32 p0, .int .i64 i, .int .i64 p2, .bool true]) (t := 35) ?hr ?_; (case hd => rfl); (case hg => rfl); (case hr => first | (go_simp; done) | (go_simp; rfl)); intro gb hg w6 hbox hb; have hc0 : w6.cell? ⟨gb, 0, none⟩ = some (.int .i32 p0) := (blk_cell hbox 0).trans rfl; have hc1 : w6.cell? ⟨gb, 1, none⟩ = some (.int .i64 i) := (blk_cell hbox 1).trans rfl; have hc3 : w6.cell? ⟨gb, 3, none⟩ = some (.bool true) := (blk_cell hbox 3).trans rfl; have HBW := Aside0.mk hb; clear hg hb hbox) | (go_at_call 66; refine (FormatUint_any b (by omega) _ (HT.out.below HBW.out)).mono ?_; rintro e w7 ⟨rfl, hb7⟩; have HB7 := Aside0.mk hb7; clear hb7))
  go_ret
  exact ⟨rfl, below_step HBW.out HB7.out⟩

set_option maxHeartbeats 4000000 in
set_option maxRecDepth 100000 in
theorem shown_34 (s : ByteArray) (i : Nat) (hix : ∀ W, (Instr.index 9 (.string s) (.int .i64 i)).run Tryd.prog W = .ok (.int .u8 34) W) (p0 : Nat) (h0 : p0 < 2 ^ 31) (p2 : Int) (w : World) (hTN : TabN w) :
    Calls Tryd.prog 56 #[.string s, .agg #[.int .i32 p0, .int .i64 i, .int .i64 p2, .bool false]] w fun e w' => e = .returned (.string (⟨#[92]⟩ ++ ⟨#[34]⟩)) ∧ Below w.heap.size w w' := by
  have HT := Aside0.mk hTN
  have H0 := Aside0.mk h0
  have hu35 := Tryd.underlying35
  clear hTN h0
  go_enter Tryd.func56, Tryd.ntmps56
  go_wp2_with (first | ((with_reducible refine gate_dst (N := 3) rfl ?_); refine box_event ?hg (N := 3) ?hd (cs := #[.int .i32 p0, .int .i64 i, .int .i64 p2, .bool false]) (t := 35) ?hr ?_; (case hd => rfl); (case hg => rfl); (case hr => first | (go_simp; done) | (go_simp; rfl)); intro gb hg w6 hbox hb; have hc0 : w6.cell? ⟨gb, 0, none⟩ = some (.int .i32 p0) := (blk_cell hbox 0).trans rfl; have hc1 : w6.cell? ⟨gb, 1, none⟩ = some (.int .i64 i) := (blk_cell hbox 1).trans rfl; have hc3 : w6.cell? ⟨gb, 3, none⟩ = some (.bool false) := (blk_cell hbox 3).trans rfl; have HBW := Aside0.mk hb; clear hg hb hbox))
  go_ret
  exact ⟨rfl, HBW.out⟩

set_option maxHeartbeats 4000000 in
set_option maxRecDepth 100000 in
theorem shown_92 (s : ByteArray) (i : Nat) (hix : ∀ W, (Instr.index 9 (.string s) (.int .i64 i)).run Tryd.prog W = .ok (.int .u8 92) W) (p0 : Nat) (h0 : p0 < 2 ^ 31) (p2 : Int) (w : World) (hTN : TabN w) :
    Calls Tryd.prog 56 #[.string s, .agg #[.int .i32 p0, .int .i64 i, .int .i64 p2, .bool false]] w fun e w' => e = .returned (.string (⟨#[92]⟩ ++ ⟨#[92]⟩)) ∧ Below w.heap.size w w' := by
  have HT := Aside0.mk hTN
  have H0 := Aside0.mk h0
  have hu35 := Tryd.underlying35
  clear hTN h0
  go_enter Tryd.func56, Tryd.ntmps56
  go_wp2_with (first | ((with_reducible refine gate_dst (N := 3) rfl ?_); refine box_event ?hg (N := 3) ?hd (cs := #[.int .i32 p0, .int .i64 i, .int .i64 p2, .bool false]) (t := 35) ?hr ?_; (case hd => rfl); (case hg => rfl); (case hr => first | (go_simp; done) | (go_simp; rfl)); intro gb hg w6 hbox hb; have hc0 : w6.cell? ⟨gb, 0, none⟩ = some (.int .i32 p0) := (blk_cell hbox 0).trans rfl; have hc1 : w6.cell? ⟨gb, 1, none⟩ = some (.int .i64 i) := (blk_cell hbox 1).trans rfl; have hc3 : w6.cell? ⟨gb, 3, none⟩ = some (.bool false) := (blk_cell hbox 3).trans rfl; have HBW := Aside0.mk hb; clear hg hb hbox))
  go_ret
  exact ⟨rfl, HBW.out⟩

set_option maxHeartbeats 4000000 in
set_option maxRecDepth 100000 in
theorem shown_plain (s : ByteArray) (i : Nat) (b : Nat) (hb8 : b < 256) (hix : ∀ W, (Instr.index 9 (.string s) (.int .i64 i)).run Tryd.prog W = .ok (.int .u8 (b : Int)) W) (p0 : Nat) (h0 : p0 < 2 ^ 31) (p2 : Int) (hq : ¬ (b = 34 ∨ b = 92)) (hr : 32 ≤ b ∧ b < 127) (w : World) (hTN : TabN w) :
    Calls Tryd.prog 56 #[.string s, .agg #[.int .i32 p0, .int .i64 i, .int .i64 p2, .bool false]] w fun e w' => e = .returned (.string (Utf8.encode b)) ∧ Below w.heap.size w w' := by
  have HT := Aside0.mk hTN
  have H0 := Aside0.mk h0
  have hu35 := Tryd.underlying35
  clear hTN h0
  go_enter Tryd.func56, Tryd.ntmps56
  go_wp2_with (first | ((with_reducible refine gate_dst (N := 3) rfl ?_); refine box_event ?hg (N := 3) ?hd (cs := #[.int .i32 p0, .int .i64 i, .int .i64 p2, .bool false]) (t := 35) ?hr ?_; (case hd => rfl); (case hg => rfl); (case hr => first | (go_simp; done) | (go_simp; rfl)); intro gb hg w6 hbox hb; have hc0 : w6.cell? ⟨gb, 0, none⟩ = some (.int .i32 p0) := (blk_cell hbox 0).trans rfl; have hc1 : w6.cell? ⟨gb, 1, none⟩ = some (.int .i64 i) := (blk_cell hbox 1).trans rfl; have hc3 : w6.cell? ⟨gb, 3, none⟩ = some (.bool false) := (blk_cell hbox 3).trans rfl; have HBW := Aside0.mk hb; clear hg hb hbox))
  go_ret
  exact ⟨rfl, HBW.out⟩

set_option maxHeartbeats 4000000 in
set_option maxRecDepth 100000 in
theorem shown_rune (s : ByteArray) (i : Nat) (b : Nat) (hb8 : b < 256) (hix : ∀ W, (Instr.index 9 (.string s) (.int .i64 i)).run Tryd.prog W = .ok (.int .u8 (b : Int)) W) (p0 : Nat) (h0 : p0 < 2 ^ 31) (p2 : Int) (hq : ¬ (b = 34 ∨ b = 92)) (hr : ¬ (32 ≤ b ∧ b < 127)) (w : World) (hTN : TabN w) :
    Calls Tryd.prog 56 #[.string s, .agg #[.int .i32 p0, .int .i64 i, .int .i64 p2, .bool false]] w fun e w' => e = .returned (.string (⟨#[92, 117]⟩ ++ hexS p0 ++ ⟨#[59]⟩)) ∧ Below w.heap.size w w' := by
  have HT := Aside0.mk hTN
  have H0 := Aside0.mk h0
  have hu35 := Tryd.underlying35
  have hw : IntKind.i64.wrap (p0 : Int) = (p0 : Int) := by rw [IntKind.wrap_i64]; omega
  have hsz := hexS_size p0
  clear hTN h0
  go_enter Tryd.func56, Tryd.ntmps56
  go_wp2_with (first | ((with_reducible refine gate_dst (N := 3) rfl ?_); refine box_event ?hg (N := 3) ?hd (cs := #[.int .i32 p0, .int .i64 i, .int .i64 p2, .bool false]) (t := 35) ?hr ?_; (case hd => rfl); (case hg => rfl); (case hr => first | (go_simp; done) | (go_simp; rfl)); intro gb hg w6 hbox hb; have hc0 : w6.cell? ⟨gb, 0, none⟩ = some (.int .i32 p0) := (blk_cell hbox 0).trans rfl; have hc1 : w6.cell? ⟨gb, 1, none⟩ = some (.int .i64 i) := (blk_cell hbox 1).trans rfl; have hc3 : w6.cell? ⟨gb, 3, none⟩ = some (.bool false) := (blk_cell hbox 3).trans rfl; have HBW := Aside0.mk hb; clear hg hb hbox) | (go_at_call 67; refine (FormatInt_any p0 (by have := H0.out; omega) _ (HT.out.below HBW.out)).mono ?_; rintro e w7 ⟨rfl, hb7⟩; have HB7 := Aside0.mk hb7; clear hb7))
  all_goals (go_ret; exact ⟨rfl, below_step HBW.out HB7.out⟩)

theorem shown_any (s : ByteArray) (i : Nat) (hi : i < s.size) (p0 : Nat) (h0 : p0 < 2 ^ 31) (p2 : Int) (br : Bool) (w : World) (hTN : TabN w) :
    Calls Tryd.prog 56 #[.string s, .agg #[.int .i32 p0, .int .i64 i, .int .i64 p2, .bool br]] w fun e w' => e = .returned (.string (showP (s.get! i).toNat p0 br)) ∧ Below w.heap.size w w' := by
  have hb8 : (s.get! i).toNat < 256 := get_lt s i
  have hix : ∀ W, (Instr.index 9 (.string s) (.int .i64 i)).run Tryd.prog W = .ok (.int .u8 (((s.get! i).toNat : Nat) : Int)) W := fun W => by
    rw [run_index_string W 9 s .i64 _ Tryd.underlying9, dif_pos ⟨by omega, by omega⟩, get_of_lt s i hi]
    simp only [Int.toNat_natCast]
  generalize (s.get! i).toNat = b at hb8 hix ⊢
  unfold showP
  cases br with
  | true =>
    rw [if_pos rfl]
    exact shown_broken s i b hb8 hix p0 h0 p2 w hTN
  | false =>
    rw [if_neg (by decide)]
    by_cases h34 : b = 34
    · subst h34
      rw [if_pos rfl]
      exact shown_34 s i hix p0 h0 p2 w hTN
    · rw [if_neg h34]
      by_cases h92 : b = 92
      · subst h92
        rw [if_pos rfl]
        exact shown_92 s i hix p0 h0 p2 w hTN
      · rw [if_neg h92]
        by_cases hr : 32 ≤ b ∧ b < 127
        · rw [if_pos hr, ← enc_small b (by omega)]
          exact shown_plain s i b hb8 hix p0 h0 p2 (by omega) hr w hTN
        · rw [if_neg hr]
          exact shown_rune s i b hb8 hix p0 h0 p2 (by omega) hr w hTN
theorem showP_size (b r : Nat) (br : Bool) : (showP b r br).size ≤ 20 := by
  have h1 := hexS_size b
  have h2 := hexS_size r
  unfold showP
  repeat' split
  all_goals (try simp only [ByteArray.size_append])
  all_goals (first | (change 2 + _ ≤ 20; omega) | (change 1 + 1 ≤ 20; omega) | (change 1 ≤ 20; omega) | (change 2 + _ + 1 ≤ 20; omega))

/-- What a text's piece at a place shows; what all pieces from a place on show. -/
def shownAt (s : ByteArray) (i : Nat) : List UInt8 := (showP (s.get! i).toNat (dc s i).1 (decide (dc s i = bad))).data.toList
def shownFrom (s : ByteArray) (i : Nat) : List UInt8 := (pos s i).flatMap (shownAt s)
theorem shownFrom_end (s : ByteArray) (i : Nat) (h : ¬ i < s.size) : shownFrom s i = [] := by unfold shownFrom; rw [pos_end s i (by omega)]; rfl
theorem shownFrom_step (s : ByteArray) (i : Nat) (h : i < s.size) : shownFrom s i = shownAt s i ++ shownFrom s (i + (dc s i).2) := by unfold shownFrom; rw [pos_step s i h]; rfl
theorem shownAt_length (s : ByteArray) (i : Nat) : (shownAt s i).length ≤ 20 := showP_size _ _ _
theorem shownFrom_length (s : ByteArray) (i : Nat) : (shownFrom s i).length ≤ 20 * (pos s i).length := by
  unfold shownFrom
  induction pos s i with
  | nil => simp
  | cons x l ih =>
    have := shownAt_length s x
    simp only [List.flatMap_cons, List.length_append, List.length_cons]
    omega

/-! ### The builder beside blocks that turn -/
theorem builder_grown {B b : Nat} {bs : List Value} {w w' : World} {row : Option Nat} (h : Lib.IsBuilderF 59 5 B b bs w) (hg : w.grownBy w' row) (hb : some b ≠ row) (hv : ∀ p v, w.heap[b]? = some (.cells #[p, v] 59 (0, 0)) → v.ownBlock = none ∨ v.ownBlock ≠ row) : Lib.IsBuilderF 59 5 B b bs w' := by
  have key : ∀ p, Lib.BuilderAtF 59 5 B b p bs w → Lib.BuilderAtF 59 5 B b p bs w' := by
    intro p h
    have hlt := h.lt
    obtain ⟨hB, v, hbk, hown, hne⟩ := h
    exact ⟨hB, v, (hg.block b hlt hb).trans hbk, hown.kept hg (hv p v hbk), hne⟩
  exact h.elim (fun x => .inl (key _ x)) (fun x => .inr (key _ x))
theorem below_grown {w w' : World} (h : Below w.heap.size w w') : w.grownBy w' none := ⟨h.os, h.tape, h.output, h.size, fun k hk _ => h.block k hk⟩
theorem builder_below {B b : Nat} {bs : List Value} {w w' : World} (h : Lib.IsBuilderF 59 5 B b bs w) (hb : Below w.heap.size w w') : Lib.IsBuilderF 59 5 B b bs w' :=
  builder_grown h (below_grown hb) (by simp) (fun _ v _ => by cases hv : v.ownBlock <;> simp)
theorem builder_lt {B b : Nat} {bs : List Value} {w : World} (h : Lib.IsBuilderF 59 5 B b bs w) : b < w.heap.size := h.elim (fun x => x.lt) (fun x => x.lt)
theorem builder_B {B b : Nat} {bs : List Value} {w : World} (h : Lib.IsBuilderF 59 5 B b bs w) : B ≤ b := h.elim (fun x => x.1) (fun x => x.1)
/-- The builder's row is not block K. -/
def RowNot (K b : Nat) (w : World) : Prop := ∀ p v, w.heap[b]? = some (.cells #[p, v] 59 (0, 0)) → v.ownBlock = none ∨ v.ownBlock ≠ some K
theorem builder_apart {B b K : Nat} {bs : List Value} {w w' : World} (h : Lib.IsBuilderF 59 5 B b bs w) (hr : RowNot K b w) (hbK : b ≠ K) (ha : Apart K w w') : Lib.IsBuilderF 59 5 B b bs w' ∧ RowNot K b w' := by
  refine ⟨builder_grown h (row := some K) ⟨ha.os, ha.tape, ha.output, ha.size, fun k hk hn => ha.block k hk (fun e => hn (by rw [e]))⟩ (by simpa using hbK) hr, ?_⟩
  intro p v hv
  rw [ha.block b (builder_lt h) hbK] at hv
  exact hr p v hv
/-- .. for it is of another kind. -/
theorem rowNot_iter {B b K : Nat} {bs : List Value} {w : World} {s : ByteArray} {n : Nat} (h : Lib.IsBuilderF 59 5 B b bs w) (hk : w.heap[K]? = some (.stringIter s n)) : RowNot K b w := by
  have key : ∀ p, Lib.BuilderAtF 59 5 B b p bs w → RowNot K b w := by
    rintro p ⟨hB, v, hbk, hown, hne⟩ p' v' hv'
    rw [hbk] at hv'
    have e : v' = v := by
      have h1 := Option.some.inj hv'
      injection h1 with h2
      have h3 := congrArg (fun a : Array Value => a[1]?) h2
      simpa using h3.symm
    subst e
    rcases hown.2 with ⟨rfl, _⟩ | ⟨g, cap, cur, fz, rfl, _, hg, _⟩
    · exact .inl rfl
    · refine .inr fun e => ?_
      have e' : g = K := by simpa [Value.ownBlock] using e
      rw [e', hk] at hg
      cases hg
  exact h.elim (key _) (key _)

theorem kept_below {e : TypeId} {bo : Option Nat} {a w w' : World} (h : Lib.OthersKept e bo a w) (hb : Below w.heap.size w w') : Lib.OthersKept e bo a w' :=
  fun k o hk h1 h2 => (hb.block k (blk_lt (h k o hk h1 h2))).trans (h k o hk h1 h2)

set_option maxHeartbeats 4000000 in
set_option maxRecDepth 100000 in
theorem quote_closure (s : ByteArray) (B b c : Nat) (acc : List UInt8) (i : Nat) (hi : i < s.size) (w : World) (hTN : TabN w) (hBw : B ≤ w.heap.size) (hb : Lib.IsBuilderF 59 5 B b (Lib.byteCells acc) w) (hc : w.heap[c]? = some (.cells #[.string s] 9 (0, 0))) (hlen : acc.length ≤ 100000000) :
    Calls Tryd.prog 55 #[.agg #[.int .i32 (dc s i).1, .int .i64 i, .int .i64 (dc s i).2, .bool (decide (dc s i = bad))], .pointer (some ⟨b, 0, none⟩), .pointer (some ⟨c, 0, none⟩)] w fun e w' => e = .returned (.bool true) ∧ Lib.IsBuilderF 59 5 B b (Lib.byteCells (acc ++ shownAt s i)) w' ∧ Below B w w' ∧ Lib.OthersKept 5 (some b) w w' := by
  have HT := Aside0.mk hTN
  have HB := Aside0.mk hb
  have HW := Aside0.mk hBw
  have HL := Aside0.mk hlen
  have HI := Aside0.mk hi
  have H1 := Aside0.mk (dc_bounds s i hi)
  have hu35 := Tryd.underlying35
  have HC := Aside0.mk hc
  have HX : (showP (s.get! i).toNat (dc s i).1 (decide (dc s i = bad))).data.toList = shownAt s i := rfl
  have HXL := Aside0.mk (showP_size (s.get! i).toNat (dc s i).1 (decide (dc s i = bad)))
  have HSH := Aside0.mk (fun W ht => shown_any s i hi (dc s i).1 (by have := dc_bounds s i hi; omega) (dc s i).2 (decide (dc s i = bad)) W ht)
  have HXX := Aside0.mk HX
  clear hTN hb hBw hlen hi HX hc H1
  generalize showP (s.get! i).toNat (dc s i).1 (decide (dc s i = bad)) = txt at *
  generalize (dc s i).1 = p0 at *
  generalize (dc s i).2 = p2 at *
  generalize decide (dc s i = bad) = br at *
  go_enter Tryd.func55, Tryd.ntmps55
  go_wp2_with (first | ((with_reducible refine gate_dst (N := 3) rfl ?_); refine box_event ?hg (N := 3) ?hd (cs := #[.int .i32 p0, .int .i64 i, .int .i64 p2, .bool br]) (t := 35) ?hr ?_; (case hd => rfl); (case hg => rfl); (case hr => first | (go_simp; done) | (go_simp; rfl)); intro gb hg w6 hbox hb6; have hc0 : w6.cell? ⟨gb, 0, none⟩ = some (.int .i32 p0) := (blk_cell hbox 0).trans rfl; have hc1 : w6.cell? ⟨gb, 1, none⟩ = some (.int .i64 i) := (blk_cell hbox 1).trans rfl; have hc2 : w6.cell? ⟨gb, 2, none⟩ = some (.int .i64 p2) := (blk_cell hbox 2).trans rfl; have hc3 : w6.cell? ⟨gb, 3, none⟩ = some (.bool br) := (blk_cell hbox 3).trans rfl; have hcs : w6.cell? ⟨c, 0, none⟩ = some (.string s) := (blk_cell (blk_below HC.out hb6) 0).trans rfl; have HBX := Aside0.mk hbox; have HBW := Aside0.mk hb6; clear hg hb6 hbox) | (go_at_call 56; refine (HSH.out _ (HT.out.below HBW.out)).mono ?_; rintro e w7 ⟨rfl, hb7⟩; have HB7 := Aside0.mk hb7; clear hb7) | (go_at_call 47; refine (WriteString_k B b _ txt _ (builder_below (builder_below HB.out HBW.out) HB7.out) (by rw [Lib.byteCells_length]; have := HL.out; have := HXL.out; omega) (Nat.le_trans HW.out (Nat.le_trans HBW.out.size HB7.out.size))).mono ?_; rintro e w8 ⟨rfl, h8, hb8, hk8⟩; have H8 := Aside0.mk h8; have HB8 := Aside0.mk hb8; have HK8 := Aside0.mk hk8; clear h8 hb8 hk8))
  go_ret
  refine ⟨rfl, .inr ?_, ?_, ?_⟩
  · have e : Lib.byteCells (acc ++ shownAt s i) = Lib.byteCells acc ++ Lib.strCells txt := by rw [← HXX.out]; simp [Lib.byteCells, Lib.strCells]
    rw [e]
    exact H8.out
  · exact ((HBW.out.mono HW.out).trans (HB7.out.mono (Nat.le_trans HW.out HBW.out.size))).trans HB8.out
  · exact (kept_below (kept_below (Lib.OthersKept.refl _ _ w) HBW.out) HB7.out).trans HK8.out

theorem quote_each (s : ByteArray) (hs : s.size ≤ 65536) (B b c : Nat) (w : World) (hTU : TabU w) (hTN : TabN w) (hB : 7 < B) (hBw : B ≤ w.heap.size) (hb : Lib.IsBuilderF 59 5 B b (Lib.byteCells [34]) w) (hc : w.heap[c]? = some (.cells #[.string s] 9 (0, 0))) (hcb : c ≠ b) :
    Calls Tryd.prog 36 #[.string s, .func (.func 55) #[] #[.pointer (some ⟨b, 0, none⟩), .pointer (some ⟨c, 0, none⟩)]] w fun e w' => e = .returned (.tuple #[]) ∧ (Lib.IsBuilderF 59 5 B b (Lib.byteCells (34 :: shownFrom s 0)) w' ∧ Below B w w') ∧ TabU w' := by
  have hbw := builder_lt hb
  have hcw := blk_lt hc
  have hlen : (34 :: shownFrom s 0).length ≤ 100000000 := by
    have h1 := shownFrom_length s 0
    have h2 := pos_length s 0 (Nat.zero_le _)
    simp only [List.length_cons]
    omega
  refine each_any s (by omega) 55 #[.pointer (some ⟨b, 0, none⟩), .pointer (some ⟨c, 0, none⟩)] (fun args w => by kernel_rfl)
    (fun i W => ∃ acc, Lib.IsBuilderF 59 5 B b (Lib.byteCells acc) W ∧ RowNot w.heap.size b W ∧ Below B w W ∧ W.heap[c]? = some (.cells #[.string s] 9 (0, 0)) ∧ acc ++ shownFrom s i = 34 :: shownFrom s 0)
    (fun W => Lib.IsBuilderF 59 5 B b (Lib.byteCells (34 :: shownFrom s 0)) W ∧ Below B w W) w hTU ?_ ?_ ?_ ?_
  · have h1 := hb.alloc (.stringIter s 0)
    exact ⟨[34], h1, rowNot_iter h1 (World.iter_heap w s 0), (Below.refl B w).alloc hBw _, blk_alloc hc _, rfl⟩
  · rintro i W W' ⟨acc, h1, h2, h3, h4, h5⟩ ha
    have hsz := h3.size
    obtain ⟨k1, k2⟩ := builder_apart h1 h2 (by omega) ha
    refine ⟨acc, k1, k2, h3.trans ⟨ha.os, ha.tape, ha.output, ha.size, fun k hk => ha.block k (by omega) (by omega)⟩, (ha.block c (by omega) (by omega)).trans h4, h5⟩
  · rintro i W ⟨acc, h1, h2, h3, h4, h5⟩ hi
    rw [shownFrom_end s i hi, List.append_nil] at h5
    subst h5
    exact ⟨h1, h3⟩
  · rintro i W hi ⟨acc, h1, h2, h3, h4, h5⟩ ht hit
    have hsz := h3.size
    have hl : acc.length ≤ 100000000 := by
      rw [← h5, List.length_append] at hlen
      omega
    have hTNW : TabN W := (World.cell?_of_block (w := w) (h3.block 7 hB)).trans hTN
    refine (quote_closure s B b c acc i hi W hTNW (by omega) h1 h4 hl).mono ?_
    rintro e W' ⟨rfl, g1, g2, g3⟩
    have hit' := g3.iter hit (by omega)
    refine ⟨true, rfl, fun _ => ⟨_, g1, rowNot_iter g1 hit', h3.trans g2, g3 c _ h4 (fun e => hcb (Option.some.inj e)) (fun _ _ e => by cases e), ?_⟩, (fun h => by cases h), ht.of_blocks (fun k hk => g2.block k (by omega)), hit'⟩
    rw [List.append_assoc, ← shownFrom_step s i hi]
    exact h5

def runes_quote.f (a0 : ByteArray) : Option ByteArray := if a0.size ≤ 65536 then some ⟨(34 :: (shownFrom a0 0 ++ [34])).toArray⟩ else none
set_option maxHeartbeats 4000000 in
set_option maxRecDepth 100000 in
theorem runes_quote.calls (a0 : ByteArray) (r : ByteArray) (w : World) (hTU : TabU w) (hTN : TabN w) (h : runes_quote.f a0 = some r) :
    Calls Tryd.prog 43 #[.string a0] w fun e w' => e = .returned (.string r) ∧ Below w.heap.size w w' := by
  unfold runes_quote.f at h
  have hs : a0.size ≤ 65536 := by
    by_cases hs : a0.size ≤ 65536
    · exact hs
    · rw [if_neg hs] at h; cases h
  rw [if_pos hs] at h
  have HR := Aside0.mk (Option.some.inj h).symm
  have HTU := Aside0.mk hTU
  have HTN := Aside0.mk hTN
  have HS := Aside0.mk hs
  clear h hTU hTN hs
  go_enter Tryd.func43, Tryd.ntmps43
  go_wp2_with (first | ((with_reducible refine gate_dst (N := 1) rfl ?_); refine box_event ?hg (N := 1) ?hd (cs := #[.string a0]) (t := 9) ?hr ?_; (case hd => rfl); (case hg => rfl); (case hr => first | (go_simp; done) | (go_simp; rfl)); intro c hc w5 hbox5 hb5; have HGC := Aside0.mk hc; have HC := Aside0.mk hbox5; have HB5 := Aside0.mk hb5; clear hc hbox5 hb5) | ((with_reducible refine gate_dst (N := 3) rfl ?_); refine box_event ?hg (N := 3) ?hd (cs := #[.pointer none, .slice none 0 0]) (t := 59) ?hr ?_; (case hd => rfl); (case hg => rfl); (case hr => first | (go_simp; done) | (go_simp; rfl)); intro b hb w6 hbox6 hb6; have HGB := Aside0.mk hb; have HBX := Aside0.mk hbox6; have HB6 := Aside0.mk hb6; clear hb hbox6 hb6) | (go_at_call 54; refine (WriteByte_k w.heap.size b [] 34 _ (.inl ⟨by rw [HGB.out]; exact HB5.out.size, _, HBX.out, World.ownsRowF_nil _ _ _ _, by simp [Value.ownBlock]⟩) (by simp) (Nat.le_trans HB5.out.size HB6.out.size)).mono ?_; rintro e w7 ⟨rfl, h7, hb7, hk7⟩; have H7 := Aside0.mk h7; have HB7 := Aside0.mk hb7; have HK7 := Aside0.mk hk7; have hc7 := hk7 c _ (blk_below HC.out HB6.out) (fun e => by have := HGB.out; have := blk_lt HC.out; have := Option.some.inj e; omega) (fun _ _ e => by cases e); have HC7 := Aside0.mk hc7; have hcs : w7.cell? ⟨c, 0, none⟩ = some (.string a0) := (blk_cell hc7 0).trans rfl; clear h7 hb7 hk7 hc7))
  have hn : 7 < w.heap.size := World.block_lt_of_cell? _ _ HTN.out
  have hB7 : Below w.heap.size w w7 := (HB5.out.trans (HB6.out.mono HB5.out.size)).trans HB7.out
  have HBB := Aside0.mk hB7
  have hcb : c ≠ b := by have := HGB.out; have := blk_lt HC.out; omega
  refine (quote_each a0 HS.out w.heap.size b c w7 (HTU.out.below hB7) (HTN.out.below hB7) hn hB7.size (.inr H7.out) HC7.out hcb).mono ?_
  rintro e w8 ⟨rfl, ⟨h8, hb8⟩, ht8⟩
  have H8 := Aside0.mk h8
  have HB8 := Aside0.mk (hB7.trans hb8)
  have HL := Aside0.mk (show (34 :: shownFrom a0 0).length ≤ 100000000 by
    have h1 := shownFrom_length a0 0
    have h2 := pos_length a0 0 (Nat.zero_le _)
    have := HS.out
    simp only [List.length_cons]
    omega)
  clear hn hB7 hcb h8 hb8 ht8
  go_wp2_with (first | (go_at_call 54; refine (WriteByte_k w.heap.size b _ 34 _ H8.out (by rw [Lib.byteCells_length]; have := HL.out; omega) HB8.out.size).mono ?_; rintro e w9 ⟨rfl, h9, hb9, hk9⟩; have H9 := Aside0.mk h9; have HB9 := Aside0.mk (HB8.out.trans hb9); clear h9 hb9 hk9) | (go_at_call 49; refine (Tryd.Builder_String_any_k w.heap.size b (34 :: (shownFrom a0 0 ++ [34])) _ (.inr (by have e : Lib.byteCells (34 :: (shownFrom a0 0 ++ [34])) = Lib.byteCells (34 :: shownFrom a0 0) ++ [.int .u8 34] := (by simp [Lib.byteCells]); rw [e]; exact H9.out)) HB9.out.size).mono ?_; rintro e w10 ⟨rfl, h10, hb10, hk10⟩; have HB10 := Aside0.mk (HB9.out.trans hb10); clear h10 hb10 hk10))
  go_ret
  exact ⟨by rw [HR.out]; rfl, HB10.out⟩
end Go.Proofs.YtglaagoblcpggaaDoor.R
