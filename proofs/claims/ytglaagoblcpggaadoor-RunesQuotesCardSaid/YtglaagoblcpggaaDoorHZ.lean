/- runes.thing: what the beginning of a quoted text stands for. -/
import Derived.Test.YtglaagoblcpggaaDoorHY
import Derived.Test.YtglaagoblcpggaaDoorShV
import Derived.Test.YtglaagoblcpggaaDoorShY
import Derived.Test.YtglaagoblcpggaaDoorPa2
import Derived.Shelf.Strings.SlTrimAscii
import Derived.Laws.DeepStrings4
set_option linter.unusedVariables false
set_option linter.unusedSimpArgs false
namespace Go.Proofs.YtglaagoblcpggaaDoor.R
open Go.RowKit Go.Proofs.YtglaagoblcpggaaDoorW.PrintWords

def hexSet : ByteArray := ⟨#[48, 49, 50, 51, 52, 53, 54, 55, 56, 57, 97, 98, 99, 100, 101, 102]⟩
set_option maxRecDepth 100000 in
theorem hexSet_has (c : UInt8) : hexSet.data.toList.contains c = isHexB c := by
  have : ∀ n : Nat, n < 256 → hexSet.data.toList.contains (UInt8.ofNat n) = isHexB (UInt8.ofNat n) := by decide
  have h := this c.toNat c.toNat_lt
  simpa using h
/-- How many hexadecimal digits follow behind the second byte. -/
def sixteens (s : ByteArray) : Nat := ((s.data.toList.drop 2).takeWhile isHexB).length
theorem trim_len (s : ByteArray) (h2 : 2 ≤ s.size) : (⟨(Lib.trimLeftS (s.extract 2 s.size).data.toList hexSet.data.toList).toArray⟩ : ByteArray).size + 2 + sixteens s = s.size := by
  have e : (s.extract 2 s.size).data.toList = s.data.toList.drop 2 := by
    have esz : s.size = s.data.size := rfl
    rw [ByteArray.data_extract, Array.toList_extract, List.extract_eq_take_drop, List.take_of_length_le (by rw [List.length_drop, Array.length_toList, esz]; omega)]
  unfold Lib.trimLeftS sixteens
  rw [e, show (fun x => hexSet.data.toList.contains x) = isHexB from funext hexSet_has]
  have e9 : s.data.toList.length = s.size := Array.length_toList
  have h1 : ((s.data.toList.drop 2).takeWhile isHexB).length + ((s.data.toList.drop 2).dropWhile isHexB).length = s.data.toList.length - 2 := by
    rw [← List.length_append, List.takeWhile_append_dropWhile, List.length_drop]
  show ((s.data.toList.drop 2).dropWhile isHexB).toArray.size + 2 + ((s.data.toList.drop 2).takeWhile isHexB).length = s.size
  rw [List.size_toArray]
  omega
theorem tw_all (p : UInt8 → Bool) : ∀ (l : List UInt8) (c : UInt8), c ∈ l.takeWhile p → p c = true
  | [], _, h => by cases h
  | x :: l, c, h => by
    rw [List.takeWhile_cons] at h
    by_cases hx : p x = true
    · rw [if_pos hx] at h
      rcases List.mem_cons.1 h with rfl | h
      · exact hx
      · exact tw_all p l c h
    · rw [if_neg hx] at h
      cases h
theorem trim_calls (s : ByteArray) (w : World) : Calls Tryd.prog 59 #[.string (s.extract 2 s.size), .string hexSet] w fun e w' => e = .returned (.string ⟨(Lib.trimLeftS (s.extract 2 s.size).data.toList hexSet.data.toList).toArray⟩) ∧ Below w.heap.size w w' :=
  Any.strings_TrimLeft_laid Tryd.lays161 (by kernel_rfl) _ _ w (by decide) (ascii_of_all (by decide))
theorem six_hex (s : ByteArray) : ∀ c ∈ (s.extract 2 (2 + sixteens s)).data.toList, isHexB c = true := by
  have e : (s.extract 2 (2 + sixteens s)).data.toList = (s.data.toList.drop 2).take (sixteens s) := by
    rw [ByteArray.data_extract, Array.toList_extract, List.extract_eq_take_drop, Nat.add_sub_cancel_left]
  intro c hc
  rw [e] at hc
  unfold sixteens at hc
  have h1 := (List.prefix_iff_eq_take.1 (List.takeWhile_prefix isHexB (l := s.data.toList.drop 2))).symm
  rw [h1] at hc
  exact tw_all _ _ _ hc
theorem cut_at (s : ByteArray) (a b : Nat) (h1 : a ≤ b) (h2 : b ≤ s.size) (x y : Int) (hx : x = a) (hy : y = b) (W : World) : (Instr.slice 9 (.string s) (some (.int .i64 x)) (some (.int .i64 y)) none).run Tryd.prog W = .ok (.string (s.extract a b)) W := by
  subst hx hy
  rw [run_slice_string_if W 9 s .i64 .i64 _ _ Tryd.underlying9, if_pos (by omega), if_pos (by omega)]
  simp only [Int.toNat_natCast]
theorem conv_one (n : Nat) (hn : n < 256) (W : World) : (convert 54 9 (.slice (some ⟨W.heap.size, 0, none⟩) 1 1)).run Tryd.prog (W.alloc (.cells #[.int .u8 n] 5)) = .ok (.string ⟨#[UInt8.ofNat n]⟩) (W.alloc (.cells #[.int .u8 n] 5)) := by
  have h : (W.alloc (.cells #[.int .u8 n] 5)).heap[W.heap.size]? = some (.cells #[.int .u8 n] 5 (0, 0)) := heap_alloc_new W _
  have := run_convert_bytes_arg (W.alloc (.cells #[.int .u8 n] 5)) 54 5 Tryd.underlying54 Tryd.underlying5 W.heap.size 0 1 1 [(n : Int)] rfl (fun i hi => by
    obtain rfl : i = 0 := by simpa using hi
    exact (blk_cell h 0).trans rfl) 9 Tryd.underlying9
  exact this
theorem hix_at (s : ByteArray) (i : Nat) (h : i < s.size) (W : World) : (Instr.index 9 (.string s) (.int .i64 i)).run Tryd.prog W = .ok (.int .u8 (((s.get! i).toNat : Nat) : Int)) W := by
  rw [run_index_string W 9 s .i64 _ Tryd.underlying9, dif_pos ⟨by omega, by omega⟩, get_of_lt s i h]
  simp only [Int.toNat_natCast]

set_option maxHeartbeats 8000000 in
set_option maxRecDepth 100000 in
theorem thing_low (s : ByteArray) (hs : s.size ≤ 1048600) (h1 : 1 ≤ s.size) (b : Nat) (x0 : ∀ W, (Instr.index 9 (.string s) (.int .i64 0)).run Tryd.prog W = .ok (.int .u8 b) W) (hb : b ≠ 92) (hr : b < 32) (w : World) :
    Calls Tryd.prog 46 #[.string s] w fun e w' => e = .returned (.tuple #[.string ⟨#[]⟩, .int .i64 0]) ∧ Below w.heap.size w w' := by
  go_enter Tryd.func46, Tryd.ntmps46
  go_wp2
  go_ret2
  exact ⟨rfl, Below.refl _ _⟩

set_option maxHeartbeats 8000000 in
set_option maxRecDepth 100000 in
theorem thing_high (s : ByteArray) (hs : s.size ≤ 1048600) (h1 : 1 ≤ s.size) (b : Nat) (x0 : ∀ W, (Instr.index 9 (.string s) (.int .i64 0)).run Tryd.prog W = .ok (.int .u8 b) W) (hb : b ≠ 92) (hr : 126 < b) (w : World) :
    Calls Tryd.prog 46 #[.string s] w fun e w' => e = .returned (.tuple #[.string ⟨#[]⟩, .int .i64 0]) ∧ Below w.heap.size w w' := by
  go_enter Tryd.func46, Tryd.ntmps46
  go_wp2
  go_ret2
  exact ⟨rfl, Below.refl _ _⟩

set_option maxHeartbeats 8000000 in
set_option maxRecDepth 100000 in
theorem thing_plain (s : ByteArray) (hs : s.size ≤ 1048600) (h1 : 1 ≤ s.size) (b : Nat) (x0 : ∀ W, (Instr.index 9 (.string s) (.int .i64 0)).run Tryd.prog W = .ok (.int .u8 b) W) (hb : b ≠ 92) (hr : 32 ≤ b) (hr2 : b ≤ 126) (w : World) :
    Calls Tryd.prog 46 #[.string s] w fun e w' => e = .returned (.tuple #[.string (s.extract 0 1), .int .i64 1]) ∧ Below w.heap.size w w' := by
  go_enter Tryd.func46, Tryd.ntmps46
  go_wp2
  go_ret2
  exact ⟨rfl, Below.refl _ _⟩

set_option maxHeartbeats 8000000 in
set_option maxRecDepth 100000 in
theorem thing_short (s : ByteArray) (hs : s.size ≤ 1048600) (h1 : s.size = 1) (x0 : ∀ W, (Instr.index 9 (.string s) (.int .i64 0)).run Tryd.prog W = .ok (.int .u8 92) W) (w : World) :
    Calls Tryd.prog 46 #[.string s] w fun e w' => e = .returned (.tuple #[.string ⟨#[]⟩, .int .i64 0]) ∧ Below w.heap.size w w' := by
  go_enter Tryd.func46, Tryd.ntmps46
  go_wp2
  go_ret2
  exact ⟨rfl, Below.refl _ _⟩

set_option maxHeartbeats 8000000 in
set_option maxRecDepth 100000 in
theorem thing_34 (s : ByteArray) (hs : s.size ≤ 1048600) (h1 : 2 ≤ s.size) (x0 : ∀ W, (Instr.index 9 (.string s) (.int .i64 0)).run Tryd.prog W = .ok (.int .u8 92) W) (x1 : ∀ W, (Instr.index 9 (.string s) (.int .i64 1)).run Tryd.prog W = .ok (.int .u8 34) W) (tl : ByteArray) (h : Nat) (htl : tl.size + 2 + h = s.size) (hT : ∀ W, Calls Tryd.prog 59 #[.string (s.extract 2 s.size), .string hexSet] W fun e w' => e = .returned (.string tl) ∧ Below W.heap.size W w') (w : World) :
    Calls Tryd.prog 46 #[.string s] w fun e w' => e = .returned (.tuple #[.string (s.extract 1 2), .int .i64 2]) ∧ Below w.heap.size w w' := by
  have e2 : s.extract (2 : Int).toNat s.size = s.extract 2 s.size := rfl
  have e5 : (s.size : Int) - 2 - (tl.size : Int) = (h : Int) := by omega
  have HT := Aside0.mk hT
  clear hT
  go_enter Tryd.func46, Tryd.ntmps46
  go_wp2_with (go_at_call 59; refine (HT.out _).mono ?_; rintro e w3 ⟨rfl, hb3⟩; have HB3 := Aside0.mk hb3; clear hb3)
  go_ret2
  exact ⟨rfl, HB3.out⟩

set_option maxHeartbeats 8000000 in
set_option maxRecDepth 100000 in
theorem thing_92 (s : ByteArray) (hs : s.size ≤ 1048600) (h1 : 2 ≤ s.size) (x0 : ∀ W, (Instr.index 9 (.string s) (.int .i64 0)).run Tryd.prog W = .ok (.int .u8 92) W) (x1 : ∀ W, (Instr.index 9 (.string s) (.int .i64 1)).run Tryd.prog W = .ok (.int .u8 92) W) (tl : ByteArray) (h : Nat) (htl : tl.size + 2 + h = s.size) (hT : ∀ W, Calls Tryd.prog 59 #[.string (s.extract 2 s.size), .string hexSet] W fun e w' => e = .returned (.string tl) ∧ Below W.heap.size W w') (w : World) :
    Calls Tryd.prog 46 #[.string s] w fun e w' => e = .returned (.tuple #[.string (s.extract 1 2), .int .i64 2]) ∧ Below w.heap.size w w' := by
  have e2 : s.extract (2 : Int).toNat s.size = s.extract 2 s.size := rfl
  have e5 : (s.size : Int) - 2 - (tl.size : Int) = (h : Int) := by omega
  have HT := Aside0.mk hT
  clear hT
  go_enter Tryd.func46, Tryd.ntmps46
  go_wp2_with (go_at_call 59; refine (HT.out _).mono ?_; rintro e w3 ⟨rfl, hb3⟩; have HB3 := Aside0.mk hb3; clear hb3)
  go_ret2
  exact ⟨rfl, HB3.out⟩

set_option maxHeartbeats 8000000 in
set_option maxRecDepth 100000 in
theorem thing_other (s : ByteArray) (hs : s.size ≤ 1048600) (h1 : 2 ≤ s.size) (x0 : ∀ W, (Instr.index 9 (.string s) (.int .i64 0)).run Tryd.prog W = .ok (.int .u8 92) W) (c : Nat) (x1 : ∀ W, (Instr.index 9 (.string s) (.int .i64 1)).run Tryd.prog W = .ok (.int .u8 c) W) (hc1 : c ≠ 34) (hc2 : c ≠ 92) (hc3 : c ≠ 120) (hc4 : c ≠ 117) (tl : ByteArray) (h : Nat) (htl : tl.size + 2 + h = s.size) (hT : ∀ W, Calls Tryd.prog 59 #[.string (s.extract 2 s.size), .string hexSet] W fun e w' => e = .returned (.string tl) ∧ Below W.heap.size W w') (w : World) :
    Calls Tryd.prog 46 #[.string s] w fun e w' => e = .returned (.tuple #[.string ⟨#[]⟩, .int .i64 0]) ∧ Below w.heap.size w w' := by
  have e2 : s.extract (2 : Int).toNat s.size = s.extract 2 s.size := rfl
  have e5 : (s.size : Int) - 2 - (tl.size : Int) = (h : Int) := by omega
  have HT := Aside0.mk hT
  clear hT
  go_enter Tryd.func46, Tryd.ntmps46
  go_wp2_with (go_at_call 59; refine (HT.out _).mono ?_; rintro e w3 ⟨rfl, hb3⟩; have HB3 := Aside0.mk hb3; clear hb3)
  go_ret2
  exact ⟨rfl, HB3.out⟩

set_option maxHeartbeats 8000000 in
set_option maxRecDepth 100000 in
theorem thing_x_few (s : ByteArray) (hs : s.size ≤ 1048600) (h1 : 2 ≤ s.size) (x0 : ∀ W, (Instr.index 9 (.string s) (.int .i64 0)).run Tryd.prog W = .ok (.int .u8 92) W) (x1 : ∀ W, (Instr.index 9 (.string s) (.int .i64 1)).run Tryd.prog W = .ok (.int .u8 120) W) (tl : ByteArray) (h : Nat) (htl : tl.size + 2 + h = s.size) (hT : ∀ W, Calls Tryd.prog 59 #[.string (s.extract 2 s.size), .string hexSet] W fun e w' => e = .returned (.string tl) ∧ Below W.heap.size W w') (hh : h < 2) (w : World) :
    Calls Tryd.prog 46 #[.string s] w fun e w' => e = .returned (.tuple #[.string ⟨#[]⟩, .int .i64 0]) ∧ Below w.heap.size w w' := by
  have e2 : s.extract (2 : Int).toNat s.size = s.extract 2 s.size := rfl
  have e5 : (s.size : Int) - 2 - (tl.size : Int) = (h : Int) := by omega
  have HT := Aside0.mk hT
  clear hT
  go_enter Tryd.func46, Tryd.ntmps46
  go_wp2_with (go_at_call 59; refine (HT.out _).mono ?_; rintro e w3 ⟨rfl, hb3⟩; have HB3 := Aside0.mk hb3; clear hb3)
  go_ret2
  exact ⟨rfl, HB3.out⟩

set_option maxHeartbeats 8000000 in
set_option maxRecDepth 100000 in
theorem thing_x_low (s : ByteArray) (hs : s.size ≤ 1048600) (h1 : 2 ≤ s.size) (x0 : ∀ W, (Instr.index 9 (.string s) (.int .i64 0)).run Tryd.prog W = .ok (.int .u8 92) W) (x1 : ∀ W, (Instr.index 9 (.string s) (.int .i64 1)).run Tryd.prog W = .ok (.int .u8 120) W) (tl : ByteArray) (h : Nat) (htl : tl.size + 2 + h = s.size) (hT : ∀ W, Calls Tryd.prog 59 #[.string (s.extract 2 s.size), .string hexSet] W fun e w' => e = .returned (.string tl) ∧ Below W.heap.size W w') (hh : 2 ≤ h) (d : Nat) (x2 : ∀ W, (Instr.index 9 (.string s) (.int .i64 2)).run Tryd.prog W = .ok (.int .u8 d) W) (hd : d < 56) (w : World) :
    Calls Tryd.prog 46 #[.string s] w fun e w' => e = .returned (.tuple #[.string ⟨#[]⟩, .int .i64 0]) ∧ Below w.heap.size w w' := by
  have e2 : s.extract (2 : Int).toNat s.size = s.extract 2 s.size := rfl
  have e5 : (s.size : Int) - 2 - (tl.size : Int) = (h : Int) := by omega
  have HT := Aside0.mk hT
  clear hT
  go_enter Tryd.func46, Tryd.ntmps46
  go_wp2_with (go_at_call 59; refine (HT.out _).mono ?_; rintro e w3 ⟨rfl, hb3⟩; have HB3 := Aside0.mk hb3; clear hb3)
  go_ret2
  exact ⟨rfl, HB3.out⟩

set_option maxHeartbeats 8000000 in
set_option maxRecDepth 100000 in
theorem thing_x_ok (s : ByteArray) (hs : s.size ≤ 1048600) (h1 : 2 ≤ s.size) (x0 : ∀ W, (Instr.index 9 (.string s) (.int .i64 0)).run Tryd.prog W = .ok (.int .u8 92) W) (x1 : ∀ W, (Instr.index 9 (.string s) (.int .i64 1)).run Tryd.prog W = .ok (.int .u8 120) W) (tl : ByteArray) (h : Nat) (htl : tl.size + 2 + h = s.size) (hT : ∀ W, Calls Tryd.prog 59 #[.string (s.extract 2 s.size), .string hexSet] W fun e w' => e = .returned (.string tl) ∧ Below W.heap.size W w') (hh : 2 ≤ h) (d : Nat) (x2 : ∀ W, (Instr.index 9 (.string s) (.int .i64 2)).run Tryd.prog W = .ok (.int .u8 d) W) (hd : 56 ≤ d) (n : Nat) (hn : n < 256) (hP : ∀ W, TabE W → Calls Tryd.prog 60 #[.string (s.extract 2 4), .int .i64 16, .int .i64 8] W fun e w' => e = .returned (.tuple #[.int .u64 n, .nilIface]) ∧ Below W.heap.size W w') (w : World) (hE : TabE w) :
    Calls Tryd.prog 46 #[.string s] w fun e w' => e = .returned (.tuple #[.string ⟨#[UInt8.ofNat n]⟩, .int .i64 4]) ∧ Below w.heap.size w w' := by
  have e2 : s.extract (2 : Int).toNat s.size = s.extract 2 s.size := rfl
  have e5 : (s.size : Int) - 2 - (tl.size : Int) = (h : Int) := by omega
  have HT := Aside0.mk hT
  clear hT
  have e8 : ∀ W : World, (convert 54 9 (.slice (some ⟨W.heap.size, 0, none⟩) 1 1)).run Tryd.prog (W.alloc (.cells #[.int .u8 n] 5)) = _ := fun W => conv_one n hn W
  have e7 : ∀ W, (Instr.slice 9 (.string s) (some (.int .i64 2)) (some (.int .i64 4)) none).run Tryd.prog W = _ := fun W => cut_at s 2 4 (by omega) (by omega) _ _ rfl rfl W
  have HP := Aside0.mk hP
  have HE := Aside0.mk hE
  have hw : IntKind.u8.wrap (n : Int) = (n : Int) := by rw [IntKind.wrap_u8]; omega
  clear hP hE
  go_enter Tryd.func46, Tryd.ntmps46
  go_wp2_with (first | (go_at_call 59; refine (HT.out _).mono ?_; rintro e w3 ⟨rfl, hb3⟩; have HB3 := Aside0.mk hb3; clear hb3) | (go_at_call 60; refine (HP.out _ (HE.out.below HB3.out)).mono ?_; rintro e w4 ⟨rfl, hb4⟩; have HB4 := Aside0.mk hb4; clear hb4))
  go_ret2
  exact ⟨rfl, below_step HB3.out (below_alloc HB4.out _)⟩

set_option maxHeartbeats 8000000 in
set_option maxRecDepth 100000 in
theorem thing_u_none (s : ByteArray) (hs : s.size ≤ 1048600) (h1 : 2 ≤ s.size) (x0 : ∀ W, (Instr.index 9 (.string s) (.int .i64 0)).run Tryd.prog W = .ok (.int .u8 92) W) (x1 : ∀ W, (Instr.index 9 (.string s) (.int .i64 1)).run Tryd.prog W = .ok (.int .u8 117) W) (tl : ByteArray) (h : Nat) (htl : tl.size + 2 + h = s.size) (hT : ∀ W, Calls Tryd.prog 59 #[.string (s.extract 2 s.size), .string hexSet] W fun e w' => e = .returned (.string tl) ∧ Below W.heap.size W w') (hP : ∀ W, TabE W → Calls Tryd.prog 60 #[.string (s.extract 2 (2 + h)), .int .i64 16, .int .i64 32] W fun e w' => (∃ (m : Int) (v : Value), 0 ≤ m ∧ m ≤ 4294967295 ∧ e = .returned (.tuple #[.int .u64 m, .iface 103 v])) ∧ Below W.heap.size W w') (w : World) (hE : TabE w) :
    Calls Tryd.prog 46 #[.string s] w fun e w' => e = .returned (.tuple #[.string ⟨#[]⟩, .int .i64 0]) ∧ Below w.heap.size w w' := by
  have e2 : s.extract (2 : Int).toNat s.size = s.extract 2 s.size := rfl
  have e5 : (s.size : Int) - 2 - (tl.size : Int) = (h : Int) := by omega
  have HT := Aside0.mk hT
  clear hT
  have e7 : ∀ W, (Instr.slice 9 (.string s) (some (.int .i64 2)) (some (.int .i64 (2 + (h : Int)))) none).run Tryd.prog W = _ := fun W => cut_at s 2 (2 + h) (by omega) (by omega) _ _ rfl (by omega) W
  have HP := Aside0.mk hP
  have HE := Aside0.mk hE
  have e6 : (2 + (h : Int)).toNat = 2 + h := by omega
  clear hP hE
  go_enter Tryd.func46, Tryd.ntmps46
  go_wp2_with (first | (go_at_call 59; refine (HT.out _).mono ?_; rintro e w3 ⟨rfl, hb3⟩; have HB3 := Aside0.mk hb3; clear hb3) | (go_at_call 60; refine (HP.out _ (HE.out.below HB3.out)).mono ?_; rintro e w4 ⟨⟨m, v, hm0, hm1, rfl⟩, hb4⟩; have HB4 := Aside0.mk hb4; clear hb4))
  go_ret2
  exact ⟨rfl, below_step HB3.out HB4.out⟩

set_option maxHeartbeats 8000000 in
set_option maxRecDepth 100000 in
theorem thing_u_big (s : ByteArray) (hs : s.size ≤ 1048600) (h1 : 2 ≤ s.size) (x0 : ∀ W, (Instr.index 9 (.string s) (.int .i64 0)).run Tryd.prog W = .ok (.int .u8 92) W) (x1 : ∀ W, (Instr.index 9 (.string s) (.int .i64 1)).run Tryd.prog W = .ok (.int .u8 117) W) (tl : ByteArray) (h : Nat) (htl : tl.size + 2 + h = s.size) (hT : ∀ W, Calls Tryd.prog 59 #[.string (s.extract 2 s.size), .string hexSet] W fun e w' => e = .returned (.string tl) ∧ Below W.heap.size W w') (n : Nat) (hn : n ≤ 4294967295) (hP : ∀ W, TabE W → Calls Tryd.prog 60 #[.string (s.extract 2 (2 + h)), .int .i64 16, .int .i64 32] W fun e w' => e = .returned (.tuple #[.int .u64 n, .nilIface]) ∧ Below W.heap.size W w') (hbig : 1114111 < n) (w : World) (hE : TabE w) :
    Calls Tryd.prog 46 #[.string s] w fun e w' => e = .returned (.tuple #[.string ⟨#[]⟩, .int .i64 0]) ∧ Below w.heap.size w w' := by
  have e2 : s.extract (2 : Int).toNat s.size = s.extract 2 s.size := rfl
  have e5 : (s.size : Int) - 2 - (tl.size : Int) = (h : Int) := by omega
  have HT := Aside0.mk hT
  clear hT
  have e7 : ∀ W, (Instr.slice 9 (.string s) (some (.int .i64 2)) (some (.int .i64 (2 + (h : Int)))) none).run Tryd.prog W = _ := fun W => cut_at s 2 (2 + h) (by omega) (by omega) _ _ rfl (by omega) W
  have HP := Aside0.mk hP
  have HE := Aside0.mk hE
  have e6 : (2 + (h : Int)).toNat = 2 + h := by omega
  clear hP hE
  go_enter Tryd.func46, Tryd.ntmps46
  go_wp2_with (first | (go_at_call 59; refine (HT.out _).mono ?_; rintro e w3 ⟨rfl, hb3⟩; have HB3 := Aside0.mk hb3; clear hb3) | (go_at_call 60; refine (HP.out _ (HE.out.below HB3.out)).mono ?_; rintro e w4 ⟨rfl, hb4⟩; have HB4 := Aside0.mk hb4; clear hb4))
  go_ret2
  exact ⟨rfl, below_step HB3.out HB4.out⟩

set_option maxHeartbeats 8000000 in
set_option maxRecDepth 100000 in
theorem thing_u_surr (s : ByteArray) (hs : s.size ≤ 1048600) (h1 : 2 ≤ s.size) (x0 : ∀ W, (Instr.index 9 (.string s) (.int .i64 0)).run Tryd.prog W = .ok (.int .u8 92) W) (x1 : ∀ W, (Instr.index 9 (.string s) (.int .i64 1)).run Tryd.prog W = .ok (.int .u8 117) W) (tl : ByteArray) (h : Nat) (htl : tl.size + 2 + h = s.size) (hT : ∀ W, Calls Tryd.prog 59 #[.string (s.extract 2 s.size), .string hexSet] W fun e w' => e = .returned (.string tl) ∧ Below W.heap.size W w') (n : Nat) (hn : n ≤ 4294967295) (hP : ∀ W, TabE W → Calls Tryd.prog 60 #[.string (s.extract 2 (2 + h)), .int .i64 16, .int .i64 32] W fun e w' => e = .returned (.tuple #[.int .u64 n, .nilIface]) ∧ Below W.heap.size W w') (hbig : n ≤ 1114111) (hv : Lib.validRune (n : Int) = false) (w : World) (hE : TabE w) :
    Calls Tryd.prog 46 #[.string s] w fun e w' => e = .returned (.tuple #[.string ⟨#[]⟩, .int .i64 0]) ∧ Below w.heap.size w w' := by
  have e2 : s.extract (2 : Int).toNat s.size = s.extract 2 s.size := rfl
  have e5 : (s.size : Int) - 2 - (tl.size : Int) = (h : Int) := by omega
  have HT := Aside0.mk hT
  clear hT
  have e7 : ∀ W, (Instr.slice 9 (.string s) (some (.int .i64 2)) (some (.int .i64 (2 + (h : Int)))) none).run Tryd.prog W = _ := fun W => cut_at s 2 (2 + h) (by omega) (by omega) _ _ rfl (by omega) W
  have HP := Aside0.mk hP
  have HE := Aside0.mk hE
  have e6 : (2 + (h : Int)).toNat = 2 + h := by omega
  clear hP hE
  have HV := Aside0.mk hv
  clear hv
  go_enter Tryd.func46, Tryd.ntmps46
  go_wp2_with (first | (go_at_call 59; refine (HT.out _).mono ?_; rintro e w3 ⟨rfl, hb3⟩; have HB3 := Aside0.mk hb3; clear hb3) | (go_at_call 60; refine (HP.out _ (HE.out.below HB3.out)).mono ?_; rintro e w4 ⟨rfl, hb4⟩; have HB4 := Aside0.mk hb4; clear hb4) | (go_at_call 61; refine (Tryd.utf8_ValidRune _ _).mono ?_; rw [HV.out]; rintro e w5 ⟨rfl, rfl⟩))
  go_ret2
  exact ⟨rfl, below_step HB3.out HB4.out⟩

set_option maxHeartbeats 8000000 in
set_option maxRecDepth 100000 in
theorem thing_u_ascii (s : ByteArray) (hs : s.size ≤ 1048600) (h1 : 2 ≤ s.size) (x0 : ∀ W, (Instr.index 9 (.string s) (.int .i64 0)).run Tryd.prog W = .ok (.int .u8 92) W) (x1 : ∀ W, (Instr.index 9 (.string s) (.int .i64 1)).run Tryd.prog W = .ok (.int .u8 117) W) (tl : ByteArray) (h : Nat) (htl : tl.size + 2 + h = s.size) (hT : ∀ W, Calls Tryd.prog 59 #[.string (s.extract 2 s.size), .string hexSet] W fun e w' => e = .returned (.string tl) ∧ Below W.heap.size W w') (n : Nat) (hn : n ≤ 4294967295) (hP : ∀ W, TabE W → Calls Tryd.prog 60 #[.string (s.extract 2 (2 + h)), .int .i64 16, .int .i64 32] W fun e w' => e = .returned (.tuple #[.int .u64 n, .nilIface]) ∧ Below W.heap.size W w') (hbig : n ≤ 1114111) (hv : Lib.validRune (n : Int) = true) (ha : 32 ≤ n) (ha2 : n ≤ 126) (w : World) (hE : TabE w) :
    Calls Tryd.prog 46 #[.string s] w fun e w' => e = .returned (.tuple #[.string ⟨#[]⟩, .int .i64 0]) ∧ Below w.heap.size w w' := by
  have e2 : s.extract (2 : Int).toNat s.size = s.extract 2 s.size := rfl
  have e5 : (s.size : Int) - 2 - (tl.size : Int) = (h : Int) := by omega
  have HT := Aside0.mk hT
  clear hT
  have e7 : ∀ W, (Instr.slice 9 (.string s) (some (.int .i64 2)) (some (.int .i64 (2 + (h : Int)))) none).run Tryd.prog W = _ := fun W => cut_at s 2 (2 + h) (by omega) (by omega) _ _ rfl (by omega) W
  have HP := Aside0.mk hP
  have HE := Aside0.mk hE
  have e6 : (2 + (h : Int)).toNat = 2 + h := by omega
  clear hP hE
  have HV := Aside0.mk hv
  clear hv
  go_enter Tryd.func46, Tryd.ntmps46
  go_wp2_with (first | (go_at_call 59; refine (HT.out _).mono ?_; rintro e w3 ⟨rfl, hb3⟩; have HB3 := Aside0.mk hb3; clear hb3) | (go_at_call 60; refine (HP.out _ (HE.out.below HB3.out)).mono ?_; rintro e w4 ⟨rfl, hb4⟩; have HB4 := Aside0.mk hb4; clear hb4) | (go_at_call 61; refine (Tryd.utf8_ValidRune _ _).mono ?_; rw [HV.out]; rintro e w5 ⟨rfl, rfl⟩))
  go_ret2
  exact ⟨rfl, below_step HB3.out HB4.out⟩

set_option maxHeartbeats 8000000 in
set_option maxRecDepth 100000 in
theorem thing_u_zero (s : ByteArray) (hs : s.size ≤ 1048600) (h1 : 2 ≤ s.size) (x0 : ∀ W, (Instr.index 9 (.string s) (.int .i64 0)).run Tryd.prog W = .ok (.int .u8 92) W) (x1 : ∀ W, (Instr.index 9 (.string s) (.int .i64 1)).run Tryd.prog W = .ok (.int .u8 117) W) (tl : ByteArray) (h : Nat) (htl : tl.size + 2 + h = s.size) (hT : ∀ W, Calls Tryd.prog 59 #[.string (s.extract 2 s.size), .string hexSet] W fun e w' => e = .returned (.string tl) ∧ Below W.heap.size W w') (n : Nat) (hn : n ≤ 4294967295) (hP : ∀ W, TabE W → Calls Tryd.prog 60 #[.string (s.extract 2 (2 + h)), .int .i64 16, .int .i64 32] W fun e w' => e = .returned (.tuple #[.int .u64 n, .nilIface]) ∧ Below W.heap.size W w') (hbig : n ≤ 1114111) (hv : Lib.validRune (n : Int) = true) (ha : n < 32 ∨ 126 < n) (d : Nat) (x2 : ∀ W, (Instr.index 9 (.string s) (.int .i64 2)).run Tryd.prog W = .ok (.int .u8 d) W) (hd : d = 48) (hh : 1 < h) (w : World) (hE : TabE w) :
    Calls Tryd.prog 46 #[.string s] w fun e w' => e = .returned (.tuple #[.string ⟨#[]⟩, .int .i64 0]) ∧ Below w.heap.size w w' := by
  have e2 : s.extract (2 : Int).toNat s.size = s.extract 2 s.size := rfl
  have e5 : (s.size : Int) - 2 - (tl.size : Int) = (h : Int) := by omega
  have HT := Aside0.mk hT
  clear hT
  have e7 : ∀ W, (Instr.slice 9 (.string s) (some (.int .i64 2)) (some (.int .i64 (2 + (h : Int)))) none).run Tryd.prog W = _ := fun W => cut_at s 2 (2 + h) (by omega) (by omega) _ _ rfl (by omega) W
  have HP := Aside0.mk hP
  have HE := Aside0.mk hE
  have e6 : (2 + (h : Int)).toNat = 2 + h := by omega
  clear hP hE
  have HV := Aside0.mk hv
  clear hv
  subst hd
  go_enter Tryd.func46, Tryd.ntmps46
  go_wp2_with (first | (go_at_call 59; refine (HT.out _).mono ?_; rintro e w3 ⟨rfl, hb3⟩; have HB3 := Aside0.mk hb3; clear hb3) | (go_at_call 60; refine (HP.out _ (HE.out.below HB3.out)).mono ?_; rintro e w4 ⟨rfl, hb4⟩; have HB4 := Aside0.mk hb4; clear hb4) | (go_at_call 61; refine (Tryd.utf8_ValidRune _ _).mono ?_; rw [HV.out]; rintro e w5 ⟨rfl, rfl⟩))
  all_goals (go_ret2; exact ⟨rfl, below_step HB3.out HB4.out⟩)

set_option maxHeartbeats 8000000 in
set_option maxRecDepth 100000 in
theorem thing_u_end (s : ByteArray) (hs : s.size ≤ 1048600) (h1 : 2 ≤ s.size) (x0 : ∀ W, (Instr.index 9 (.string s) (.int .i64 0)).run Tryd.prog W = .ok (.int .u8 92) W) (x1 : ∀ W, (Instr.index 9 (.string s) (.int .i64 1)).run Tryd.prog W = .ok (.int .u8 117) W) (tl : ByteArray) (h : Nat) (htl : tl.size + 2 + h = s.size) (hT : ∀ W, Calls Tryd.prog 59 #[.string (s.extract 2 s.size), .string hexSet] W fun e w' => e = .returned (.string tl) ∧ Below W.heap.size W w') (n : Nat) (hn : n ≤ 4294967295) (hP : ∀ W, TabE W → Calls Tryd.prog 60 #[.string (s.extract 2 (2 + h)), .int .i64 16, .int .i64 32] W fun e w' => e = .returned (.tuple #[.int .u64 n, .nilIface]) ∧ Below W.heap.size W w') (hbig : n ≤ 1114111) (hv : Lib.validRune (n : Int) = true) (ha : n < 32 ∨ 126 < n) (d : Nat) (x2 : ∀ W, (Instr.index 9 (.string s) (.int .i64 2)).run Tryd.prog W = .ok (.int .u8 d) W) (hd : d ≠ 48 ∨ h ≤ 1) (tail : ByteArray) (hx : s.extract (2 + h) s.size = tail) (hpf : Lib.hasPrefix tail.data.toList [59] = false) (w : World) (hE : TabE w) :
    Calls Tryd.prog 46 #[.string s] w fun e w' => e = .returned (.tuple #[.string ⟨#[]⟩, .int .i64 0]) ∧ Below w.heap.size w w' := by
  have e2 : s.extract (2 : Int).toNat s.size = s.extract 2 s.size := rfl
  have e5 : (s.size : Int) - 2 - (tl.size : Int) = (h : Int) := by omega
  have HT := Aside0.mk hT
  clear hT
  have e7 : ∀ W, (Instr.slice 9 (.string s) (some (.int .i64 2)) (some (.int .i64 (2 + (h : Int)))) none).run Tryd.prog W = _ := fun W => cut_at s 2 (2 + h) (by omega) (by omega) _ _ rfl (by omega) W
  have HP := Aside0.mk hP
  have HE := Aside0.mk hE
  have e6 : (2 + (h : Int)).toNat = 2 + h := by omega
  clear hP hE
  have HV := Aside0.mk hv
  clear hv
  have HPF := Aside0.mk hpf
  clear hpf
  have e8 : s.extract (2 + (h : Int)).toNat s.size = tail := by rw [e6]; exact hx
  go_enter Tryd.func46, Tryd.ntmps46
  go_wp2_with (first | (go_at_call 59; refine (HT.out _).mono ?_; rintro e w3 ⟨rfl, hb3⟩; have HB3 := Aside0.mk hb3; clear hb3) | (go_at_call 60; refine (HP.out _ (HE.out.below HB3.out)).mono ?_; rintro e w4 ⟨rfl, hb4⟩; have HB4 := Aside0.mk hb4; clear hb4) | (go_at_call 61; refine (Tryd.utf8_ValidRune _ _).mono ?_; rw [HV.out]; rintro e w5 ⟨rfl, rfl⟩) | (go_at_call 45; refine (Tryd.strings_HasPrefix _ _ _).mono ?_; rw [show (⟨#[59]⟩ : ByteArray).data.toList = [59] from rfl, HPF.out]; rintro e w6 ⟨rfl, rfl⟩))
  all_goals (go_ret2; exact ⟨rfl, below_step HB3.out HB4.out⟩)

set_option maxHeartbeats 8000000 in
set_option maxRecDepth 100000 in
theorem thing_u_ok (s : ByteArray) (hs : s.size ≤ 1048600) (h1 : 2 ≤ s.size) (x0 : ∀ W, (Instr.index 9 (.string s) (.int .i64 0)).run Tryd.prog W = .ok (.int .u8 92) W) (x1 : ∀ W, (Instr.index 9 (.string s) (.int .i64 1)).run Tryd.prog W = .ok (.int .u8 117) W) (tl : ByteArray) (h : Nat) (htl : tl.size + 2 + h = s.size) (hT : ∀ W, Calls Tryd.prog 59 #[.string (s.extract 2 s.size), .string hexSet] W fun e w' => e = .returned (.string tl) ∧ Below W.heap.size W w') (n : Nat) (hn : n ≤ 4294967295) (hP : ∀ W, TabE W → Calls Tryd.prog 60 #[.string (s.extract 2 (2 + h)), .int .i64 16, .int .i64 32] W fun e w' => e = .returned (.tuple #[.int .u64 n, .nilIface]) ∧ Below W.heap.size W w') (hbig : n ≤ 1114111) (hv : Lib.validRune (n : Int) = true) (ha : n < 32 ∨ 126 < n) (d : Nat) (x2 : ∀ W, (Instr.index 9 (.string s) (.int .i64 2)).run Tryd.prog W = .ok (.int .u8 d) W) (hd : d ≠ 48 ∨ h ≤ 1) (tail : ByteArray) (hx : s.extract (2 + h) s.size = tail) (hpf : Lib.hasPrefix tail.data.toList [59] = true) (w : World) (hE : TabE w) :
    Calls Tryd.prog 46 #[.string s] w fun e w' => e = .returned (.tuple #[.string (Utf8.encode (n : Int)), .int .i64 ((h : Int) + 3)]) ∧ Below w.heap.size w w' := by
  have e2 : s.extract (2 : Int).toNat s.size = s.extract 2 s.size := rfl
  have e5 : (s.size : Int) - 2 - (tl.size : Int) = (h : Int) := by omega
  have HT := Aside0.mk hT
  clear hT
  have e7 : ∀ W, (Instr.slice 9 (.string s) (some (.int .i64 2)) (some (.int .i64 (2 + (h : Int)))) none).run Tryd.prog W = _ := fun W => cut_at s 2 (2 + h) (by omega) (by omega) _ _ rfl (by omega) W
  have HP := Aside0.mk hP
  have HE := Aside0.mk hE
  have e6 : (2 + (h : Int)).toNat = 2 + h := by omega
  clear hP hE
  have HV := Aside0.mk hv
  clear hv
  have HPF := Aside0.mk hpf
  clear hpf
  have e8 : s.extract (2 + (h : Int)).toNat s.size = tail := by rw [e6]; exact hx
  go_enter Tryd.func46, Tryd.ntmps46
  go_wp2_with (first | (go_at_call 59; refine (HT.out _).mono ?_; rintro e w3 ⟨rfl, hb3⟩; have HB3 := Aside0.mk hb3; clear hb3) | (go_at_call 60; refine (HP.out _ (HE.out.below HB3.out)).mono ?_; rintro e w4 ⟨rfl, hb4⟩; have HB4 := Aside0.mk hb4; clear hb4) | (go_at_call 61; refine (Tryd.utf8_ValidRune _ _).mono ?_; rw [HV.out]; rintro e w5 ⟨rfl, rfl⟩) | (go_at_call 45; refine (Tryd.strings_HasPrefix _ _ _).mono ?_; rw [show (⟨#[59]⟩ : ByteArray).data.toList = [59] from rfl, HPF.out]; rintro e w6 ⟨rfl, rfl⟩))
  all_goals (go_ret2; exact ⟨rfl, below_step HB3.out HB4.out⟩)
end Go.Proofs.YtglaagoblcpggaaDoor.R
