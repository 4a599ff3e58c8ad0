/- strconv.ParseUint at base 16, over texts of small hexadecimal digits. -/
import Derived.Test.YtglaagoblcpggaaDoorHX
import Derived.Lib.UnsafeStr
set_option linter.unusedVariables false
set_option linter.unusedSimpArgs false
namespace Go.Proofs.YtglaagoblcpggaaDoor.R
open Go.RowKit Go.Proofs.YtglaagoblcpggaaDoorW.PrintWords

/-- strconv's two errors lie where the program lays them. -/
def TabE (w : World) : Prop := (∃ te pe, w.cell? ⟨2, 0, none⟩ = some (.iface te pe)) ∧ (∃ te pe, w.cell? ⟨3, 0, none⟩ = some (.iface te pe))
theorem TabE.below {w w' : World} (h : TabE w) (hb : Below w.heap.size w w') : TabE w' := by
  obtain ⟨⟨t1, p1, h1⟩, ⟨t2, p2, h2⟩⟩ := h
  exact ⟨⟨t1, p1, pw_cell_below hb h1⟩, ⟨t2, p2, pw_cell_below hb h2⟩⟩
theorem bytesWorld_below (w : World) (t : ByteArray) : Below w.heap.size w (Lib.bytesWorld w 5 t) := by
  unfold Lib.bytesWorld
  exact Lib.below_freeze (below_alloc (Below.drew (Below.refl _ _)) _) (p := ⟨w.heap.size, _, none⟩) (Nat.le_refl _) _

theorem uint_hex_ok (bits M : Int) (s : ByteArray) (n : Nat) (w : World)
    (hI : Calls Tryd.prog 73 #[.string s, .int .i64 16, .int .i64 bits] w fun e w' => e = .returned (.tuple #[.int .u64 n, .nilIface]) ∧ w' = Lib.bytesWorld w 5 s) :
    Calls Tryd.prog 60 #[.string s, .int .i64 16, .int .i64 bits] w fun e w' => e = .returned (.tuple #[.int .u64 n, .nilIface]) ∧ Below w.heap.size w w' := by
  have hb := bytesWorld_below w s
  have HB := Aside0.mk hb
  clear hb
  go_enter Tryd.func60, Tryd.ntmps60
  go_wp2_with (go_at_call 73; refine hI.mono ?_; rintro e W1 ⟨rfl, rfl⟩)
  go_ret2
  exact ⟨rfl, HB.out⟩
theorem uint_hex_err (bits : Int) (s : ByteArray) (code : Int) (hc : code = 1 ∨ code = 2) (m : Int) (hs : s.size ≤ 281474976710656) (w : World) (hE : TabE w)
    (hI : Calls Tryd.prog 73 #[.string s, .int .i64 16, .int .i64 bits] w fun e w' => e = .returned (.tuple #[.int .u64 m, .iface 101 (.int .i64 code)]) ∧ Below w.heap.size w w') :
    Calls Tryd.prog 60 #[.string s, .int .i64 16, .int .i64 bits] w fun e w' => (∃ v, e = .returned (.tuple #[.int .u64 m, .iface 103 v])) ∧ Below w.heap.size w w' := by
  have key : ∀ W, TabE W → Calls Tryd.prog 74 #[.string ⟨#[80, 97, 114, 115, 101, 85, 105, 110, 116]⟩, .string s, .int .i64 16, .int .i64 bits, .iface 101 (.int .i64 code)] W fun e w' => (∃ v, e = .returned (.iface 103 v)) ∧ Below W.heap.size W w' := by
    intro W hE
    obtain ⟨⟨t1, p1, h1⟩, ⟨t2, p2, h2⟩⟩ := hE
    rcases hc with rfl | rfl
    · exact (AnyPu.strconv_toError_range (P := Tryd.prog) (ρ := Tryd.laysPu14_ren) { Tryd.laysPu14 with } _ s 16 bits _ W hs h2 (.inr ⟨t2, p2, rfl⟩)).mono fun e w' ⟨N, h, _, _, hb⟩ => ⟨⟨_, h⟩, hb⟩
    · exact (AnyPu.strconv_toError_syntax (P := Tryd.prog) (ρ := Tryd.laysPu14_ren) { Tryd.laysPu14 with } _ s 16 bits _ W hs h1 (.inr ⟨t1, p1, rfl⟩)).mono fun e w' ⟨N, h, _, _, hb⟩ => ⟨⟨_, h⟩, hb⟩
  have HK := Aside0.mk key
  have HE := Aside0.mk hE
  clear hE key hc
  go_enter Tryd.func60, Tryd.ntmps60
  go_wp2_with (first | (go_at_call 73; refine hI.mono ?_; rintro e W1 ⟨rfl, hb⟩; have HB := Aside0.mk hb; clear hb) | (go_at_call 74; refine (HK.out _ (HE.out.below HB.out)).mono ?_; rintro e W2 ⟨⟨v, rfl⟩, hb2⟩; have HB2 := Aside0.mk hb2; clear hb2))
  go_ret2
  exact ⟨⟨v, rfl⟩, below_step HB.out HB2.out⟩
/-- strconv.ParseUint(s, 16, 32) and (s, 16, 8), s of hexadecimal digits. -/
theorem ParseUint_hex (bits : Int) (M : Nat) (hM : bits = 32 ∧ M = 4294967295 ∨ bits = 8 ∧ M = 255) (s : ByteArray) (hs : s.size ≤ 281474976710656) (hx : ∀ c ∈ s.data.toList, isHexB c = true) (w : World) (hE : TabE w) :
    Calls Tryd.prog 60 #[.string s, .int .i64 16, .int .i64 bits] w fun e w' =>
      (match (if s.size = 0 then none else hexM M 0 s.data.toList) with
       | some n => e = .returned (.tuple #[.int .u64 n, .nilIface])
       | none => ∃ m v, 0 ≤ m ∧ m ≤ 4294967295 ∧ e = .returned (.tuple #[.int .u64 m, .iface 103 v])) ∧ Below w.heap.size w w' := by
  by_cases h0 : s.size = 0
  · rw [if_pos h0]
    obtain rfl : s = ⟨#[]⟩ := by
      apply ByteArray.ext
      exact Array.eq_empty_of_size_eq_zero h0
    refine (uint_hex_err bits ⟨#[]⟩ 2 (.inr rfl) 0 (by simp [ByteArray.size]) w hE ((Tryd.internal_strconv_ParseUint_empty 16 bits w).mono ?_)).mono ?_
    · rintro e w' ⟨rfl, rfl⟩
      exact ⟨rfl, Below.refl _ _⟩
    · rintro e w' ⟨⟨v, rfl⟩, hb⟩
      exact ⟨⟨0, v, by omega, by omega, rfl⟩, hb⟩
  · rw [if_neg h0]
    have hI : Calls Tryd.prog 73 #[.string s, .int .i64 16, .int .i64 bits] w fun e w' => e = .returned (hexRes M (hexM M 0 s.data.toList)) ∧ w' = Lib.bytesWorld w 5 s := by
      rcases hM with ⟨rfl, rfl⟩ | ⟨rfl, rfl⟩
      · exact inner_hex_b32 s h0 (by omega) hx w
      · exact inner_hex_b8 s h0 (by omega) hx w
    cases hn : hexM M 0 s.data.toList with
    | some n =>
      rw [hn] at hI
      exact (uint_hex_ok bits M s n w hI)
    | none =>
      rw [hn] at hI
      refine (uint_hex_err bits s 1 (.inl rfl) M hs w hE (hI.mono ?_)).mono ?_
      · rintro e w' ⟨rfl, rfl⟩
        exact ⟨rfl, bytesWorld_below w s⟩
      · rintro e w' ⟨⟨v, rfl⟩, hb⟩
        exact ⟨⟨M, v, by omega, by rcases hM with ⟨_, rfl⟩ | ⟨_, rfl⟩ <;> decide, rfl⟩, hb⟩
end Go.Proofs.YtglaagoblcpggaaDoor.R
