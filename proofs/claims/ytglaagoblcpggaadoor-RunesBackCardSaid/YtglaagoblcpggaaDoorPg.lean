/- What is encoded decodes: the runes' bytes, read back. Plain Lean. -/
import Derived.Test.YtglaagoblcpggaaDoorHT
import Derived.Test.YtglaagoblcpggaaDoorPf
import Derived.Test.YtglaagoblcpggaaDoorHQ
import Derived.Test.YtglaagoblcpggaaDoorF6
set_option linter.unusedVariables false
set_option linter.unusedSimpArgs false
namespace Go.Proofs.YtglaagoblcpggaaDoor.R
open Go.RowKit Go.Proofs.YtglaagoblcpggaaDoorW.PrintWords

theorem byte8 (n : Nat) : (UInt8.ofNat n).toNat = n % 256 := by simp
/-- A rune that can be written. -/
def okRune (c : Int) : Prop := 0 ≤ c ∧ c ≤ 1114111 ∧ (c < 55296 ∨ 57343 < c)
theorem valid_ok (r : Int) : Utf8.valid r = true ↔ okRune r := by
  unfold Utf8.valid okRune
  simp
  omega
theorem Len_pieces (s : ByteArray) (h : (s.size : Int) ≤ 65536) : runes_Len.f s = some (((pieces s).length : Int), 0) := by
  unfold runes_Len.f runes_long.f utf8_RuneCountInString.f
  rw [if_neg (by omega), Option.bind_some, if_pos rfl, if_pos (by omega)]
  rfl
theorem decN2 (n c b2 b3 : Nat) (hn : 1 < n) (h1 : 128 ≤ c) (h2 : c < 2048) : Lib.decodeN n (192 + c / 64) (128 + c % 64) b2 b3 = (c, 2) := by
  unfold Lib.decodeN
  rw [if_neg (by omega), if_pos (by omega), if_pos (by omega)]
  exact Prod.ext (by simp only; omega) rfl
theorem decN3 (n c b3 : Nat) (hn : 2 < n) (h1 : 2048 ≤ c) (h2 : c < 65536) (hs : c < 55296 ∨ 57343 < c) : Lib.decodeN n (224 + c / 4096) (128 + c / 64 % 64) (128 + c % 64) b3 = (c, 3) := by
  have e : (224 + c / 4096) % 16 * 4096 + (128 + c / 64 % 64) % 64 * 64 + (128 + c % 64) % 64 = c := by omega
  unfold Lib.decodeN
  rw [e, if_neg (by omega), if_neg (by omega), if_pos (by omega), if_pos (by omega)]
theorem decN4 (n c : Nat) (hn : 3 < n) (h1 : 65536 ≤ c) (h2 : c < 1114112) : Lib.decodeN n (240 + c / 262144) (128 + c / 4096 % 64) (128 + c / 64 % 64) (128 + c % 64) = (c, 4) := by
  have e : (240 + c / 262144) % 8 * 262144 + (128 + c / 4096 % 64) % 64 * 4096 + (128 + c / 64 % 64) % 64 * 64 + (128 + c % 64) % 64 = c := by omega
  unfold Lib.decodeN
  rw [e, if_neg (by omega), if_neg (by omega), if_neg (by omega), if_pos (by omega), if_pos (by omega)]

theorem get_drop (t : ByteArray) (i j : Nat) (l : List UInt8) (h : t.data.toList.drop i = l) (x : UInt8) (hj : l[j]? = some x) : t.get! (i + j) = x := by
  have esz : t.size = t.data.size := rfl
  rw [← h, List.getElem?_drop] at hj
  obtain ⟨hlt, hx⟩ := List.getElem?_eq_some_iff.1 hj
  rw [Array.length_toList] at hlt
  rw [get_of_lt t (i + j) (by omega), ← hx]
  simp [ByteArray.getElem_eq_getElem_data]
theorem size_drop (t : ByteArray) (i : Nat) (l : List UInt8) (h : t.data.toList.drop i = l) : t.size - i = l.length := by
  rw [← h, List.length_drop, Array.length_toList]
  rfl
theorem enc_valid (c : Nat) (hv : okRune c) : Utf8.encode (c : Int) = if c < 128 then ⟨#[UInt8.ofNat c]⟩ else if c < 2048 then ⟨#[UInt8.ofNat (192 + c / 64), UInt8.ofNat (128 + c % 64)]⟩
    else if c < 65536 then ⟨#[UInt8.ofNat (224 + c / 4096), UInt8.ofNat (128 + c / 64 % 64), UInt8.ofNat (128 + c % 64)]⟩ else ⟨#[UInt8.ofNat (240 + c / 262144), UInt8.ofNat (128 + c / 4096 % 64), UInt8.ofNat (128 + c / 64 % 64), UInt8.ofNat (128 + c % 64)]⟩ := by
  unfold Utf8.encode
  simp only
  rw [if_pos ((valid_ok _).2 hv), Int.toNat_natCast]
/-- A rune's bytes at a place: it decodes to the rune. -/
theorem dc_enc (t : ByteArray) (i c : Nat) (hv : okRune c) (rest : List UInt8) (h : t.data.toList.drop i = (Utf8.encode (c : Int)).data.toList ++ rest) : i < t.size ∧ dc t i = (c, (Utf8.encode (c : Int)).size) ∧ dc t i ≠ bad := by
  have hs := size_drop t i _ h
  have hv' := hv
  unfold okRune at hv'
  rw [dc_N, show t.get! i = t.get! (i + 0) from rfl, hs]
  have g := fun j x => get_drop t i j _ h x
  rw [enc_valid c hv] at hs g ⊢
  clear h
  have o : ∀ n : Nat, n < 256 → (UInt8.ofNat n).toNat = n := fun n hn => by rw [byte8]; omega
  by_cases h1 : c < 128
  · rw [if_pos h1] at hs g ⊢
    have e : Lib.decodeN ((#[UInt8.ofNat c] : Array UInt8).toList ++ rest).length (t.get! (i + 0)).toNat (t.get! (i + 1)).toNat (t.get! (i + 2)).toNat (t.get! (i + 3)).toNat = (c, 1) := by
      rw [g 0 _ rfl, o _ (by omega)]
      unfold Lib.decodeN
      rw [if_pos h1]
    simp only [List.cons_append, List.length_cons] at hs
    refine ⟨by omega, e, ?_⟩
    show Lib.decodeN ((#[UInt8.ofNat c] : Array UInt8).toList ++ rest).length (t.get! (i + 0)).toNat (t.get! (i + 1)).toNat (t.get! (i + 2)).toNat (t.get! (i + 3)).toNat ≠ bad
    rw [e]
    intro e
    have := congrArg Prod.fst e
    simp [bad] at this
    omega
  · rw [if_neg h1] at hs g ⊢
    by_cases h2 : c < 2048
    · rw [if_pos h2] at hs g ⊢
      simp only [List.cons_append, List.length_cons, List.nil_append] at hs g ⊢
      rw [g 0 _ rfl, g 1 _ rfl, o _ (by omega), o _ (by omega), decN2 _ _ _ _ (by omega) (by omega) (by omega)]
      exact ⟨by omega, rfl, fun e => by cases congrArg Prod.snd e⟩
    · rw [if_neg h2] at hs g ⊢
      by_cases h3 : c < 65536
      · rw [if_pos h3] at hs g ⊢
        simp only [List.cons_append, List.length_cons, List.nil_append] at hs g ⊢
        rw [g 0 _ rfl, g 1 _ rfl, g 2 _ rfl, o _ (by omega), o _ (by omega), o _ (by omega), decN3 _ _ _ (by omega) (by omega) (by omega) (by omega)]
        exact ⟨by omega, rfl, fun e => by cases congrArg Prod.snd e⟩
      · rw [if_neg h3] at hs g ⊢
        simp only [List.cons_append, List.length_cons, List.nil_append] at hs g ⊢
        rw [g 0 _ rfl, g 1 _ rfl, g 2 _ rfl, g 3 _ rfl, o _ (by omega), o _ (by omega), o _ (by omega), o _ (by omega), decN4 _ _ (by omega) (by omega) (by omega)]
        exact ⟨by omega, rfl, fun e => by cases congrArg Prod.snd e⟩
/-- .. all of them. -/
theorem pos_enc_any (t : ByteArray) (e : Nat → List UInt8) (V : Nat → Prop) (hE : ∀ (i c : Nat) (rest : List UInt8), V c → t.data.toList.drop i = e c ++ rest → i < t.size ∧ dc t i = (c, (e c).length) ∧ dc t i ≠ bad) (l : List Nat) :
    ∀ (i : Nat), (∀ c ∈ l, V c) → t.data.toList.drop i = (l.map e).flatten → (pos t i).map (fun j => (dc t j).1) = l ∧ ∀ j ∈ pos t i, dc t j ≠ bad := by
  induction l with
  | nil =>
    intro i _ h
    have hs := size_drop t i _ h
    rw [pos_end t i (by simp at hs; omega)]
    exact ⟨rfl, fun j hj => by cases hj⟩
  | cons c l ih =>
    intro i hv h
    obtain ⟨h1, h2, h3⟩ := hE i c _ (hv c (.head _)) h
    have h4 : t.data.toList.drop (i + (dc t i).2) = (l.map e).flatten := by
      rw [← List.drop_drop, h, List.map_cons, List.flatten_cons, h2]
      exact List.drop_left' rfl
    obtain ⟨h5, h6⟩ := ih _ (fun c hc => hv c (.tail _ hc)) h4
    rw [pos_step t i h1, List.map_cons, h5]
    refine ⟨by rw [h2], fun j hj => ?_⟩
    rcases List.mem_cons.1 hj with rfl | hj
    · exact h3
    · exact h6 j hj
theorem lenB (b : ByteArray) : b.data.toList.length = b.size := Array.length_toList
theorem pos_enc (t : ByteArray) (l : List Nat) (i : Nat) (hv : ∀ c ∈ l, okRune (c : Int)) (h : t.data.toList.drop i = (l.map fun c : Nat => (Utf8.encode (c : Int)).data.toList).flatten) : (pos t i).map (fun j => (dc t j).1) = l ∧ ∀ j ∈ pos t i, dc t j ≠ bad :=
  pos_enc_any t (fun c : Nat => (Utf8.encode (c : Int)).data.toList) (fun c => okRune (c : Int)) (fun i c rest hv h => by
    have h1 := dc_enc t i c hv rest h
    have h2 := lenB (Utf8.encode (c : Int))
    revert h1 h2
    generalize Utf8.encode (c : Int) = e
    intro h1 h2
    rw [← h2] at h1
    exact h1) l i hv h
theorem runesBytes_data (l : List Int) : (runesBytes l).data.toList = (l.map fun c => (Utf8.encode c).data.toList).flatten := by
  have go : ∀ (l : List Int) (a : ByteArray), (l.foldl (fun r n => r ++ Utf8.encode n) a).data.toList = a.data.toList ++ (l.map fun c => (Utf8.encode c).data.toList).flatten := by
    intro l
    induction l with
    | nil => intro a; simp
    | cons x l ih => intro a; rw [List.foldl_cons, ih]; simp
  unfold runesBytes
  rw [go]
  rfl
theorem dc_okRune (s : ByteArray) (i : Nat) : okRune ((dc s i).1 : Int) := by
  unfold okRune
  rcases dc_form s i with h | h | h | h | h <;> first | (rw [h]; exact ⟨by decide, by decide, by decide⟩) | omega
/-- Back, read: the same runes, none broken. -/
theorem back_read (s : ByteArray) : runesOf (runesBytes (runesOf s)) = runesOf s ∧ ∀ j ∈ pos (runesBytes (runesOf s)) 0, dc (runesBytes (runesOf s)) j ≠ bad := by
  have h := pos_enc (runesBytes (runesOf s)) ((pos s 0).map fun j => (dc s j).1) 0 (fun c hc => by
    obtain ⟨j, _, rfl⟩ := List.mem_map.1 hc
    exact dc_okRune s j) (by
    rw [List.drop_zero, runesBytes_data]
    simp [runesOf, List.map_map, Function.comp_def])
  refine ⟨?_, h.2⟩
  have := congrArg (List.map (fun n : Nat => (n : Int))) h.1
  simpa [runesOf, List.map_map, Function.comp_def] using this

/-! ### RunesBack -/
theorem runesBytes_size (l : List Int) : (runesBytes l).size ≤ 4 * l.length := by
  have h := foldl_size_le l ByteArray.empty
  have e : ByteArray.empty.size = 0 := rfl
  unfold runesBytes
  omega
theorem Part_ok (s : ByteArray) (lo hi : Int) (hs : (s.size : Int) ≤ 65536) (h0 : 0 ≤ lo) (h1 : lo ≤ hi) (h2 : hi ≤ ((pieces s).length : Int)) : runes_Part.f s lo hi = some (s.extract (place s lo).toNat (place s hi).toNat, 0) := by
  unfold runes_Part.f
  rw [if_neg (by omega), if_neg (by omega)]
theorem place_zero (s : ByteArray) : place s 0 = 0 := by
  by_cases h : 0 < s.size
  · have := place_at s 0 0 (by rw [pos_step s 0 h]; rfl)
    exact this
  · unfold place
    have : (pieces s).length = 0 := by have := pieces_length s; omega
    rw [if_pos (by omega)]
    omega
theorem place_all (s : ByteArray) : place s ((pieces s).length : Int) = s.size := by unfold place; rw [if_pos rfl]
/-- What comes behind the loop. -/
theorem Back_end (s : ByteArray) (z : Int) (hs : (s.size : Int) ≤ 5000) (k : Nat) : cognatelaw01_RunesBack.l0 (k + 2) s z true (pieces s) s.size (runesOf s) ((pieces s).length : Int) = some true := by
  have hl := pieces_length s
  have hm : wrap64 (((pieces s).length : Int) + 1) = ((pieces s).length : Int) + 1 := w64 (by omega) (by omega)
  obtain ⟨L, hL⟩ : ∃ L : Int, L = ((pieces s).length : Int) := ⟨_, rfl⟩
  rw [cognatelaw01_RunesBack.l0, if_neg (by omega), hm, if_neg (by omega), ← hL]
  have q1 : -(L + 1) < Int.tmod z (L + 1) ∧ Int.tmod z (L + 1) < L + 1 := by
    have a := Int.tmod_lt_of_pos z (show 0 < L + 1 by omega)
    have b := Int.tmod_lt_of_pos (-z) (show 0 < L + 1 by omega)
    rw [Int.neg_tmod] at b
    exact ⟨by omega, a⟩
  generalize Int.tmod z (L + 1) = y at q1 ⊢
  rw [w64 (n := y + (L + 1)) (by omega) (by omega)]
  have q2 : 0 ≤ Int.tmod (y + (L + 1)) (L + 1) ∧ Int.tmod (y + (L + 1)) (L + 1) ≤ L := by
    have a := Int.tmod_lt_of_pos (y + (L + 1)) (show 0 < L + 1 by omega)
    have b := Int.tmod_nonneg (L + 1) (show 0 ≤ y + (L + 1) by omega)
    omega
  generalize Int.tmod (y + (L + 1)) (L + 1) = f at q2 ⊢
  obtain ⟨b1, b2⟩ := back_read s
  have ht : (runesBytes (runesOf s)).size ≤ 65536 := by
    have h1 := runesBytes_size (runesOf s)
    have h2 := runesOf_length s
    omega
  have hbk : ∀ t : ByteArray, t.size ≤ 65536 → runes_Back.f t = some (runesBytes (runesOf t), 0) := fun t h => by unfold runes_Back.f; rw [if_neg (by omega)]
  have hlen : (pieces (runesBytes (runesOf s))).length = (pieces s).length := by
    have := congrArg List.length b1
    simpa [runesOf, pieces] using this
  have hbr : runes_Broken.f (runesBytes (runesOf s)) = some (-1, 0) := by
    unfold runes_Broken.f
    rw [if_neg (by omega)]
    unfold brokenAt
    rw [List.find?_eq_none.2 (fun j hj => by simpa using b2 j hj)]
  have ht' : ((runesBytes (runesOf s)).size : Int) ≤ 65536 := by omega
  rw [Part_ok s 0 f (by omega) (by omega) q2.1 (by omega), Option.bind_some, Part_ok s f L (by omega) q2.1 q2.2 (by omega), Option.bind_some, hbk s (by omega), Option.bind_some, Len_pieces _ ht', Option.bind_some]
  have hp := place_bounds s 0 f (by omega) q2.1 (by omega)
  have hp2 := place_bounds s f L q2.1 q2.2 (by omega)
  have hab : s.extract (place s 0).toNat (place s f).toNat ++ s.extract (place s f).toNat (place s L).toNat = s := by
    rw [place_zero, hL, place_all]
    apply ByteArray.ext
    simp only [ByteArray.data_append, ByteArray.data_extract]
    rw [Array.extract_append_extract]
    simp
    rw [show max (place s f).toNat s.size = s.data.size from by rw [Nat.max_eq_right (by omega)]; rfl]
    simp
  simp only [if_true]
  rw [if_pos (by
    have := congrArg ByteArray.size hab
    rw [ByteArray.size_append] at this
    omega), hab, if_pos rfl, hlen, if_pos (by omega)]
  have htx : runes_Text.f (runesOf s) = some (runesBytes (runesOf s)) := rfl
  rw [htx, Option.bind_some, cognatelaw01_RunesBack.j2, if_neg (by simp), hbr, Option.bind_some, hbk _ ht, Option.bind_some, b1]
  simp
/-- The loop over the pieces. -/
theorem Back_round (s : ByteArray) (z : Int) (hs : (s.size : Int) ≤ 5000) (i : Nat) : ∀ (n k : Nat) (acc : List Int), i ≤ s.size → (pos s 0).drop n = pos s i → n ≤ (pos s 0).length → acc ++ (pos s i).map (fun j => ((dc s j).1 : Int)) = runesOf s → acc.length ≤ 5000 → 2 * (s.size - i) + 2 ≤ k →
    cognatelaw01_RunesBack.l0 k s z true (pieces s) i acc n = some true := by
  have hl := pieces_length s
  have hn' : (pieces s).length = (pos s 0).length := by simp [pieces]
  refine by_pieces s (P := fun i => ∀ (n k : Nat) (acc : List Int), i ≤ s.size → (pos s 0).drop n = pos s i → n ≤ (pos s 0).length → acc ++ (pos s i).map (fun j => ((dc s j).1 : Int)) = runesOf s → acc.length ≤ 5000 → 2 * (s.size - i) + 2 ≤ k →
    cognatelaw01_RunesBack.l0 k s z true (pieces s) i acc n = some true) ?_ ?_ i
  · intro i h n k acc hi hd hn ha hc hk
    rw [pos_end s i h] at hd ha
    have hn2 : n = (pieces s).length := by
      have := congrArg List.length hd
      simp at this
      omega
    obtain ⟨k, rfl⟩ : ∃ m, k = m + 2 := ⟨k - 2, by omega⟩
    obtain rfl : i = s.size := by omega
    rw [List.map_nil, List.append_nil] at ha
    rw [ha, hn2]
    exact Back_end s z hs k
  · intro i hi ih n k acc _ hd hn ha hc hk
    have hb := dc_bounds s i hi
    rw [pos_step s i hi] at hd ha
    obtain ⟨k, rfl⟩ : ∃ m, k = m + 2 := ⟨k - 2, by omega⟩
    have hlt : n < (pos s 0).length := by
      have := congrArg List.length hd
      simp at this
      omega
    have hx : (pieces s)[n]? = some (piece s i) := by
      have : (pos s 0)[n]? = some i := by
        have := congrArg (fun l => l[0]?) hd
        simpa using this
      simp [pieces, this]
    have hd2 : (pos s 0).drop (n + 1) = pos s (i + (dc s i).2) := by
      have := congrArg List.tail hd
      simpa using this
    rw [cognatelaw01_RunesBack.l0, if_pos (by omega), if_pos (by omega), rd_at _ n _ hx]
    rw [if_pos (show (piece s i).f1 = (i : Int) from rfl), if_neg (show ¬ (piece s i).f2 < 1 by show ¬ ((dc s i).2 : Int) < 1; omega), show (piece s i).f0 = ((dc s i).1 : Int) from rfl, show (piece s i).f1 = (i : Int) from rfl, show (piece s i).f2 = ((dc s i).2 : Int) from rfl, show (piece s i).f3 = decide (dc s i = bad) from rfl, w64 (n := (i : Int) + ((dc s i).2 : Int)) (by omega) (by omega), decide_eq_false (by omega), cognatelaw01_RunesBack.j1, if_neg (by simp), if_pos (by omega), if_pos (by omega), Int.toNat_natCast, go_tail s i hi, Option.bind_some]
    simp only [if_true]
    have step : cognatelaw01_RunesBack.l0 k s z true (pieces s) (((i + (dc s i).2 : Nat)) : Int) (acc ++ [((dc s i).1 : Int)]) ((n + 1 : Nat) : Int) = some true :=
      ih (n + 1) k _ (by omega) hd2 (by omega) (by rw [List.append_assoc]; exact ha) (by
        have h1 := congrArg List.length ha
        have h2 := runesOf_length s
        simp only [List.length_append, List.length_map, List.length_cons, List.length_nil] at h1 ⊢
        omega) (by omega)
    rw [w64 (n := (i : Int) + ((dc s i).2 : Int)) (by omega) (by omega), w64 (n := (n : Int) + 1) (by omega) (by omega)]
    by_cases e : ((dc s i).1 : Int) = 65533
    · rw [if_pos e, if_neg (by
        by_cases e2 : (dc s i).2 = 1
        · rw [decide_eq_true ((bad_iff s i hi).2 ⟨by omega, e2⟩)]; simp; omega
        · rw [decide_eq_false (fun h => e2 ((bad_iff s i hi).1 h).2)]; simp; omega), if_pos (by omega)]
      exact step
    · rw [if_neg e, if_neg (by
        rw [decide_eq_false (fun h => e (by have := ((bad_iff s i hi).1 h).1; omega))]; simp), if_pos (by omega)]
      exact step
/-- RunesBack's pure statement. -/
theorem RunesBack_pure : cognatelaw01_RunesBack.Pure := by
  intro s z hs _
  refine ⟨2 * s.size + 20, ?_⟩
  unfold cognatelaw01_RunesBack.f
  rw [alive_eq _ (by omega), Option.bind_some]
  by_cases h : (s.size : Int) > 5000
  · rw [if_pos h]
  · rw [if_neg h]
    have hp : runes_Pieces.f s = some (pieces s, 0) := by unfold runes_Pieces.f; rw [if_neg (by omega)]
    rw [hp, Option.bind_some, if_pos rfl]
    exact Back_round s z (by omega) 0 0 _ [] (by omega) rfl (by omega) rfl (by simp) (by omega)
end Go.Proofs.YtglaagoblcpggaaDoor.R
