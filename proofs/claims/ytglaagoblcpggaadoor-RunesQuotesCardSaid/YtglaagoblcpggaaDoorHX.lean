/- internal/strconv.ParseUint and strconv.ParseUint at base 16, over texts of small hexadecimal digits. -/
import Derived.Test.YtglaagoblcpggaaDoorPa
import Derived.Test.YtglaagoblcpggaaDoorShX
import Derived.Lib.Strings
import Derived.Lib.Walk
import Derived.Lib.ConvBytes
import Derived.Lib.ParseIntBMem
import Derived.Lib.Hide
import Derived.Laws.Strings3
import Derived.Laws.Closers25
import Derived.Laws.Closers25b
set_option linter.unusedVariables false
set_option linter.unusedSimpArgs false
namespace Go.Proofs.YtglaagoblcpggaaDoor.R
open Go.RowKit Go.Proofs.YtglaagoblcpggaaDoorW.PrintWords

def hexv (c : UInt8) : Nat := if c.toNat ≤ 57 then c.toNat - 48 else c.toNat - 87
def isHexB (c : UInt8) : Bool := (decide (48 ≤ c.toNat) && decide (c.toNat ≤ 57)) || (decide (97 ≤ c.toNat) && decide (c.toNat ≤ 102))
def hexM (M : Nat) : Nat → List UInt8 → Option Nat
  | acc, [] => some acc
  | acc, c :: l => if M < acc * 16 + hexv c then none else hexM M (acc * 16 + hexv c) l
def hexRes (M : Nat) : Option Nat → Value
  | some n => .tuple #[.int .u64 n, .nilIface]
  | none => .tuple #[.int .u64 M, .iface 101 (.int .i64 1)]
set_option maxRecDepth 100000 in
theorem lower_id : ∀ c : Nat, c < 123 → 97 ≤ c → bits .or .u8 (c : Int) 32 = (c : Int) := by decide
set_option maxRecDepth 100000 in
theorem lower_calls (c : Int) (w : World) : Calls Tryd.prog 80 #[.int .u8 c] w fun e w' => e = .returned (.int .u8 (bits .or .u8 c 32)) ∧ w' = w := by
  go_enter Tryd.func80, Tryd.ntmps80
  go_wp2
  go_ret
  exact ⟨rfl, rfl⟩

set_option maxHeartbeats 32000000 in
set_option maxRecDepth 100000 in
theorem inner_hex_b32 (t : ByteArray) (hne : t.size ≠ 0) (hmax : t.size ≤ 9223372036854775806) (hx : ∀ c ∈ t.data.toList, isHexB c = true) (w : World) :
    Calls Tryd.prog 73 #[.string t, .int .i64 16, .int .i64 32] w fun e w' => e = .returned (hexRes 4294967295 (hexM 4294967295 0 t.data.toList)) ∧ w' = Lib.bytesWorld w 5 t := by
  have hemp : t.toList.isEmpty = false := by
    rw [← decide_eq_emptyBytes]
    exact decide_eq_false (fun h => hne (by rw [h]; rfl))
  have hcv := Lib.run_convert_string_bytes (P := Tryd.prog) w 9 54 5 t (u := .string) Tryd.underlying9 Tryd.underlying54 Tryd.underlying5
  have hB : ∀ j, j < t.size → (Lib.bytesWorld w 5 t).cell? ⟨w.heap.size, j, none⟩ = some (.int .u8 (t.data.toList.getD j 0).toNat) := fun j hj => Lib.bytesWorld_cell w 5 t j hj
  obtain ⟨W1, hW1⟩ : ∃ W1, W1 = Lib.bytesWorld w 5 t := ⟨_, rfl⟩
  rw [← hW1] at hcv hB ⊢
  clear hW1
  obtain ⟨bs, hL⟩ : ∃ bs, bs = t.data.toList := ⟨_, rfl⟩
  have hLn : bs.length = t.size := by rw [hL, Lib.size_eq]
  rw [← hL] at hB hx ⊢
  clear hL
  have HX := Lib.hid hx
  clear hx
  have hmv : IntKind.u64.wrap (IntKind.u64.wrap 4294967296 - 1) = 4294967295 := by
    rw [IntKind.wrap_u64, IntKind.wrap_u64]
    decide
  go_enter Tryd.func73, Tryd.ntmps73
  go_wp2
  go_loop [12, 13, 101] (fun vu vn vi => ∃ (k acc : Nat) (a : Int), vu = .bool false ∧ vn = .int .u64 a ∧ vi = .int .i64 k ∧ k ≤ t.size ∧ Hid (a = (acc : Int) ∧ acc ≤ 4294967295 ∧ hexM 4294967295 0 bs = hexM 4294967295 acc (bs.drop k)))
    (fun _ _ vi => t.size - (intOf vi).toNat)
  case atStart => exact ⟨0, 0, 0, rfl, rfl, rfl, by omega, rfl, by omega, rfl⟩
  case round =>
    obtain ⟨k, acc, a, rfl, rfl, rfl, hk, hh⟩ := hrel
    obtain ⟨ha, hacc, hdec⟩ := hh.out
    clear hh
    have a0 : 0 ≤ a := by omega
    have a1 : a ≤ 4294967295 := by omega
    by_cases hkn : k < t.size
    · have hc := hB k hkn
      have hdrop : bs.drop k = bs[k]'(by omega) :: bs.drop (k + 1) := List.drop_eq_getElem_cons (by omega)
      have hget : bs.getD k 0 = bs[k]'(by omega) := by simp [List.getD, List.getElem?_eq_getElem (show k < bs.length by omega)]
      have hxk := HX.out _ (List.getElem_mem (show k < bs.length by omega))
      rw [hdrop] at hdec
      rw [hget] at hc
      generalize bs[k]'(by omega) = c at hc hdec hxk
      have hc256 : c.toNat < 256 := c.toNat_lt
      clear hB hdrop hget
      have hM : hexM 4294967295 acc (c :: bs.drop (k + 1)) = if 4294967295 < acc * 16 + hexv c then none else hexM 4294967295 (acc * 16 + hexv c) (bs.drop (k + 1)) := rfl
      rw [hM] at hdec
      clear hM
      unfold hexv at hdec
      simp only [isHexB, Bool.or_eq_true, Bool.and_eq_true, decide_eq_true_eq] at hxk
      generalize c.toNat = b at *
      by_cases hdig : b ≤ 57
      · have hd0 : 48 ≤ b := by omega
        rw [if_pos hdig] at hdec
        clear hxk
        by_cases hov : 4294967295 < acc * 16 + (b - 48)
        · rw [if_pos hov] at hdec
          have iov : 4294967295 < a * 16 + ((b : Int) - 48) := by omega
          clear hacc hov ha
          go_wp2
          go_ret2
          first | exact ⟨rfl, rfl⟩ | exact ⟨by rw [hdec]; rfl, rfl⟩
        · rw [if_neg hov] at hdec
          have HN : Hid (a * 16 + ((b : Int) - 48) = ((acc * 16 + (b - 48) : Nat) : Int) ∧ acc * 16 + (b - 48) ≤ 4294967295 ∧ hexM 4294967295 0 bs = hexM 4294967295 (acc * 16 + (b - 48)) (bs.drop (k + 1))) := Lib.hid ⟨by omega, by omega, hdec⟩
          have iov : a * 16 + ((b : Int) - 48) ≤ 4294967295 := by omega
          clear hacc hov hdec ha
          go_wp2
          refine ⟨⟨k + 1, acc * 16 + (b - 48), a * 16 + ((b : Int) - 48), rfl, (by first | rfl | (congr 1; omega)), (by first | rfl | (congr 1; omega)), by omega, HN⟩, by simp [intOf]; omega⟩
      · obtain ⟨hl0, hl1⟩ : 97 ≤ b ∧ b ≤ 102 := by omega
        rw [if_neg hdig] at hdec
        have hlow := lower_id b (by omega) hl0
        clear hxk hdig
        by_cases hov : 4294967295 < acc * 16 + (b - 87)
        · rw [if_pos hov] at hdec
          have iov : 4294967295 < a * 16 + ((b : Int) - 97 + 10) := by omega
          clear hacc hov ha
          go_wp2_with (go_at_call 80; refine (lower_calls _ _).mono ?_; rw [hlow]; rintro e w' ⟨rfl, rfl⟩)
          go_ret2
          first | exact ⟨rfl, rfl⟩ | exact ⟨by rw [hdec]; rfl, rfl⟩
        · rw [if_neg hov] at hdec
          have HN : Hid (a * 16 + ((b : Int) - 97 + 10) = ((acc * 16 + (b - 87) : Nat) : Int) ∧ acc * 16 + (b - 87) ≤ 4294967295 ∧ hexM 4294967295 0 bs = hexM 4294967295 (acc * 16 + (b - 87)) (bs.drop (k + 1))) := Lib.hid ⟨by omega, by omega, hdec⟩
          have iov : a * 16 + ((b : Int) - 97 + 10) ≤ 4294967295 := by omega
          clear hacc hov hdec ha
          go_wp2_with (go_at_call 80; refine (lower_calls _ _).mono ?_; rw [hlow]; rintro e w' ⟨rfl, rfl⟩)
          refine ⟨⟨k + 1, acc * 16 + (b - 87), a * 16 + ((b : Int) - 97 + 10), rfl, (by first | rfl | (congr 1; omega)), (by first | rfl | (congr 1; omega)), by omega, HN⟩, by simp [intOf]; omega⟩
    · have hkk : k = t.size := by omega
      subst hkk
      have hF : hexM 4294967295 acc (bs.drop t.size) = some acc := by rw [List.drop_eq_nil_of_le (by omega)]; rfl
      rw [hF] at hdec
      subst ha
      clear hacc hF a0 a1
      go_wp2
      go_ret2
      first | exact ⟨rfl, rfl⟩ | exact ⟨by rw [hdec]; rfl, rfl⟩

set_option maxHeartbeats 32000000 in
set_option maxRecDepth 100000 in
theorem inner_hex_b8 (t : ByteArray) (hne : t.size ≠ 0) (hmax : t.size ≤ 9223372036854775806) (hx : ∀ c ∈ t.data.toList, isHexB c = true) (w : World) :
    Calls Tryd.prog 73 #[.string t, .int .i64 16, .int .i64 8] w fun e w' => e = .returned (hexRes 255 (hexM 255 0 t.data.toList)) ∧ w' = Lib.bytesWorld w 5 t := by
  have hemp : t.toList.isEmpty = false := by
    rw [← decide_eq_emptyBytes]
    exact decide_eq_false (fun h => hne (by rw [h]; rfl))
  have hcv := Lib.run_convert_string_bytes (P := Tryd.prog) w 9 54 5 t (u := .string) Tryd.underlying9 Tryd.underlying54 Tryd.underlying5
  have hB : ∀ j, j < t.size → (Lib.bytesWorld w 5 t).cell? ⟨w.heap.size, j, none⟩ = some (.int .u8 (t.data.toList.getD j 0).toNat) := fun j hj => Lib.bytesWorld_cell w 5 t j hj
  obtain ⟨W1, hW1⟩ : ∃ W1, W1 = Lib.bytesWorld w 5 t := ⟨_, rfl⟩
  rw [← hW1] at hcv hB ⊢
  clear hW1
  obtain ⟨bs, hL⟩ : ∃ bs, bs = t.data.toList := ⟨_, rfl⟩
  have hLn : bs.length = t.size := by rw [hL, Lib.size_eq]
  rw [← hL] at hB hx ⊢
  clear hL
  have HX := Lib.hid hx
  clear hx
  have hmv : IntKind.u64.wrap (IntKind.u64.wrap 256 - 1) = 255 := by
    rw [IntKind.wrap_u64, IntKind.wrap_u64]
    decide
  go_enter Tryd.func73, Tryd.ntmps73
  go_wp2
  go_loop [12, 13, 101] (fun vu vn vi => ∃ (k acc : Nat) (a : Int), vu = .bool false ∧ vn = .int .u64 a ∧ vi = .int .i64 k ∧ k ≤ t.size ∧ Hid (a = (acc : Int) ∧ acc ≤ 255 ∧ hexM 255 0 bs = hexM 255 acc (bs.drop k)))
    (fun _ _ vi => t.size - (intOf vi).toNat)
  case atStart => exact ⟨0, 0, 0, rfl, rfl, rfl, by omega, rfl, by omega, rfl⟩
  case round =>
    obtain ⟨k, acc, a, rfl, rfl, rfl, hk, hh⟩ := hrel
    obtain ⟨ha, hacc, hdec⟩ := hh.out
    clear hh
    have a0 : 0 ≤ a := by omega
    have a1 : a ≤ 255 := by omega
    by_cases hkn : k < t.size
    · have hc := hB k hkn
      have hdrop : bs.drop k = bs[k]'(by omega) :: bs.drop (k + 1) := List.drop_eq_getElem_cons (by omega)
      have hget : bs.getD k 0 = bs[k]'(by omega) := by simp [List.getD, List.getElem?_eq_getElem (show k < bs.length by omega)]
      have hxk := HX.out _ (List.getElem_mem (show k < bs.length by omega))
      rw [hdrop] at hdec
      rw [hget] at hc
      generalize bs[k]'(by omega) = c at hc hdec hxk
      have hc256 : c.toNat < 256 := c.toNat_lt
      clear hB hdrop hget
      have hM : hexM 255 acc (c :: bs.drop (k + 1)) = if 255 < acc * 16 + hexv c then none else hexM 255 (acc * 16 + hexv c) (bs.drop (k + 1)) := rfl
      rw [hM] at hdec
      clear hM
      unfold hexv at hdec
      simp only [isHexB, Bool.or_eq_true, Bool.and_eq_true, decide_eq_true_eq] at hxk
      generalize c.toNat = b at *
      by_cases hdig : b ≤ 57
      · have hd0 : 48 ≤ b := by omega
        rw [if_pos hdig] at hdec
        clear hxk
        by_cases hov : 255 < acc * 16 + (b - 48)
        · rw [if_pos hov] at hdec
          have iov : 255 < a * 16 + ((b : Int) - 48) := by omega
          clear hacc hov ha
          go_wp2
          go_ret2
          first | exact ⟨rfl, rfl⟩ | exact ⟨by rw [hdec]; rfl, rfl⟩
        · rw [if_neg hov] at hdec
          have HN : Hid (a * 16 + ((b : Int) - 48) = ((acc * 16 + (b - 48) : Nat) : Int) ∧ acc * 16 + (b - 48) ≤ 255 ∧ hexM 255 0 bs = hexM 255 (acc * 16 + (b - 48)) (bs.drop (k + 1))) := Lib.hid ⟨by omega, by omega, hdec⟩
          have iov : a * 16 + ((b : Int) - 48) ≤ 255 := by omega
          clear hacc hov hdec ha
          go_wp2
          refine ⟨⟨k + 1, acc * 16 + (b - 48), a * 16 + ((b : Int) - 48), rfl, (by first | rfl | (congr 1; omega)), (by first | rfl | (congr 1; omega)), by omega, HN⟩, by simp [intOf]; omega⟩
      · obtain ⟨hl0, hl1⟩ : 97 ≤ b ∧ b ≤ 102 := by omega
        rw [if_neg hdig] at hdec
        have hlow := lower_id b (by omega) hl0
        clear hxk hdig
        by_cases hov : 255 < acc * 16 + (b - 87)
        · rw [if_pos hov] at hdec
          have iov : 255 < a * 16 + ((b : Int) - 97 + 10) := by omega
          clear hacc hov ha
          go_wp2_with (go_at_call 80; refine (lower_calls _ _).mono ?_; rw [hlow]; rintro e w' ⟨rfl, rfl⟩)
          go_ret2
          first | exact ⟨rfl, rfl⟩ | exact ⟨by rw [hdec]; rfl, rfl⟩
        · rw [if_neg hov] at hdec
          have HN : Hid (a * 16 + ((b : Int) - 97 + 10) = ((acc * 16 + (b - 87) : Nat) : Int) ∧ acc * 16 + (b - 87) ≤ 255 ∧ hexM 255 0 bs = hexM 255 (acc * 16 + (b - 87)) (bs.drop (k + 1))) := Lib.hid ⟨by omega, by omega, hdec⟩
          have iov : a * 16 + ((b : Int) - 97 + 10) ≤ 255 := by omega
          clear hacc hov hdec ha
          go_wp2_with (go_at_call 80; refine (lower_calls _ _).mono ?_; rw [hlow]; rintro e w' ⟨rfl, rfl⟩)
          refine ⟨⟨k + 1, acc * 16 + (b - 87), a * 16 + ((b : Int) - 97 + 10), rfl, (by first | rfl | (congr 1; omega)), (by first | rfl | (congr 1; omega)), by omega, HN⟩, by simp [intOf]; omega⟩
    · have hkk : k = t.size := by omega
      subst hkk
      have hF : hexM 255 acc (bs.drop t.size) = some acc := by rw [List.drop_eq_nil_of_le (by omega)]; rfl
      rw [hF] at hdec
      subst ha
      clear hacc hF a0 a1
      go_wp2
      go_ret2
      first | exact ⟨rfl, rfl⟩ | exact ⟨by rw [hdec]; rfl, rfl⟩
end Go.Proofs.YtglaagoblcpggaaDoor.R
