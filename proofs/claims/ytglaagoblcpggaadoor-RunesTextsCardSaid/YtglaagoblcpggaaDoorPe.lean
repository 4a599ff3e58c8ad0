/- What the reference's one, Back, Broken and Same compute; RunesTexts' pure statement. Plain Lean over the printed functions. -/
import Derived.Test.YtglaagoblcpggaaDoorPb
import Derived.Test.YtglaagoblcpggaaDoorHR
import Derived.Test.YtglaagoblcpggaaDoorHT
import Derived.Test.YtglaagoblcpggaaDoorF4
set_option linter.unusedVariables false
set_option linter.unusedSimpArgs false
namespace Go.Proofs.YtglaagoblcpggaaDoor.R
open Go.RowKit Go.Proofs.YtglaagoblcpggaaDoorW.PrintWords

theorem of8 (n : Nat) : (UInt8.ofNat n).toNat = n % 256 := by simp
theorem valid_iff (r : Int) : Utf8.valid r = true ↔ isRune r := by
  unfold Utf8.valid isRune
  simp
  omega
def encB (c : Nat) : List Int := if c < 128 then [((c % 256 : Nat) : Int)] else if c < 2048 then [(((192 + c / 64) % 256 : Nat) : Int), (((128 + c % 64) % 256 : Nat) : Int)]
  else if c < 65536 then [(((224 + c / 4096) % 256 : Nat) : Int), (((128 + c / 64 % 64) % 256 : Nat) : Int), (((128 + c % 64) % 256 : Nat) : Int)]
  else [(((240 + c / 262144) % 256 : Nat) : Int), (((128 + c / 4096 % 64) % 256 : Nat) : Int), (((128 + c / 64 % 64) % 256 : Nat) : Int), (((128 + c % 64) % 256 : Nat) : Int)]
theorem bytes_encode (r : Int) : bytesOf (Utf8.encode r) = encB (if isRune r then r.toNat else 65533) := by
  have hv : (if Utf8.valid r = true then r.toNat else Utf8.runeError) = (if isRune r then r.toNat else 65533) := by
    by_cases h : isRune r
    · rw [if_pos h, if_pos ((valid_iff r).2 h)]
    · rw [if_neg h, if_neg (fun e => h ((valid_iff r).1 e))]; rfl
  unfold Utf8.encode
  simp only
  rw [hv]
  generalize (if isRune r then r.toNat else 65533) = c
  unfold encB bytesOf
  repeat' split
  all_goals first | (exfalso; omega) | simp [of8]
theorem low8 (a : Int) (b x : Nat) (ha : a = (b : Int)) (hb : b ≤ 240) (hx : x < 20000000) : wrap32 (a + (x : Int)) % 256 = (((b + x) % 256 : Nat) : Int) := by
  subst ha
  rw [w32 (by omega) (by omega)]
  omega
theorem one_shape (c : Int) (A B C D E F : Int) (l1 l2 l3 l4 : List Int) (n : Nat) (hc : c = n) (h1 : [c % 256] = l1) (h2 : [A, B] = l2) (h3 : [C, D, B] = l3) (h4 : [E, F, D, B] = l4) :
    (if c < 128 then some [c % 256] else if c < 2048 then some [A, B] else if c < 65536 then some [C, D, B] else some [E, F, D, B]) = some (if n < 128 then l1 else if n < 2048 then l2 else if n < 65536 then l3 else l4) := by
  subst hc h1 h2 h3 h4
  by_cases h1 : n < 128
  · rw [if_pos (by omega), if_pos h1]
  · rw [if_neg (by omega), if_neg h1]
    by_cases h2 : n < 2048
    · rw [if_pos (by omega), if_pos h2]
    · rw [if_neg (by omega), if_neg h2]
      by_cases h3 : n < 65536
      · rw [if_pos (by omega), if_pos h3]
      · rw [if_neg (by omega), if_neg h3]
theorem tdiv_nat (c d : Nat) : Int.tdiv (c : Int) (d : Int) = ((c / d : Nat) : Int) := (Int.ofNat_tdiv c d).symm
theorem tmod_nat (c d : Nat) : Int.tmod (c : Int) (d : Int) = ((c % d : Nat) : Int) := (Int.ofNat_tmod c d).symm
theorem one_j0 (k : Nat) (c : Nat) (h : c < 1114112) : cognateref01_one.j0 (k + 1) (c : Int) = some (encB c) := by
  have ww : ∀ x : Nat, x < 2147483648 → wrap32 (x : Int) = (x : Int) := fun x hx => w32 (by omega) (by omega)
  have q1 : c / 64 < 20000000 := Nat.lt_of_le_of_lt (Nat.div_le_self _ _) (by omega)
  have q2 : c / 4096 < 20000000 := Nat.lt_of_le_of_lt (Nat.div_le_self _ _) (by omega)
  have q3 : c / 262144 < 20000000 := Nat.lt_of_le_of_lt (Nat.div_le_self _ _) (by omega)
  have m1 : ∀ x : Nat, x % 64 < 20000000 := fun x => Nat.lt_trans (Nat.mod_lt _ (by omega)) (by omega)
  rw [cognateref01_one.j0, show (64 : Int) = ((64 : Nat) : Int) from rfl, show (4096 : Int) = ((4096 : Nat) : Int) from rfl, show (262144 : Int) = ((262144 : Nat) : Int) from rfl, tdiv_nat, tdiv_nat, tdiv_nat, ww _ (by omega), ww _ (by omega), ww _ (by omega), tmod_nat, tmod_nat, tmod_nat]
  refine one_shape _ _ _ _ _ _ _ _ _ _ _ c rfl ?_ ?_ ?_ ?_
  · rw [Int.natCast_emod]; rfl
  · rw [low8 192 192 _ rfl (by omega) q1, low8 128 128 _ rfl (by omega) (m1 _)]
  · rw [low8 224 224 _ rfl (by omega) q2, low8 128 128 _ rfl (by omega) (m1 _), low8 128 128 _ rfl (by omega) (m1 _)]
  · rw [low8 240 240 _ rfl (by omega) q3, low8 128 128 _ rfl (by omega) (m1 _), low8 128 128 _ rfl (by omega) (m1 _), low8 128 128 _ rfl (by omega) (m1 _)]
theorem one_eq (k : Nat) (r : Int) : cognateref01_one.f (k + 1) r = some (bytesOf (Utf8.encode r)) := by
  unfold cognateref01_one.f
  rw [Rune_eq, Option.bind_some, bytes_encode]
  by_cases h : isRune r
  · have h' := h
    unfold isRune at h'
    rw [if_pos (by simpa using h), if_pos h]
    have := one_j0 k r.toNat (by omega)
    rwa [show ((r.toNat : Nat) : Int) = r by omega] at this
  · rw [if_neg (by simpa using h), if_neg h]
    exact one_j0 k 65533 (by omega)

theorem bytesOf_append (a b : ByteArray) : bytesOf (a ++ b) = bytesOf a ++ bytesOf b := by simp [bytesOf]
theorem runesBytes_go (l : List Int) : ∀ a : ByteArray, bytesOf (l.foldl (fun r n => r ++ Utf8.encode n) a) = bytesOf a ++ (l.map fun r => bytesOf (Utf8.encode r)).flatten := by
  induction l with
  | nil => intro a; simp
  | cons x l ih => intro a; rw [List.foldl_cons, ih, bytesOf_append]; simp
theorem runesBytes_bytes (l : List Int) : bytesOf (runesBytes l) = (l.map fun r => bytesOf (Utf8.encode r)).flatten := by
  unfold runesBytes
  rw [runesBytes_go]
  rfl
theorem enc_le (r : Int) : (bytesOf (Utf8.encode r)).length ≤ 4 := by rw [bytesOf_length]; exact encode_size_le r

/-- A loop over runes that collects their bytes, from any place on. -/
theorem Back_loop (s : ByteArray) (hs : s.size ≤ 100000) (d : Nat) : ∀ (n k : Nat) (acc : List Int), (pieces s).length - n = d → n ≤ (pieces s).length → acc.length ≤ 4 * n → d + 2 ≤ k →
    cognateref01_Back.l0 k (pieces s) acc n = some (strOfNums (acc ++ (((pieces s).drop n).map fun p => bytesOf (Utf8.encode p.f0)).flatten), 0) := by
  have hl := pieces_length s
  induction d with
  | zero =>
    intro n k acc hd h1 ha hk
    obtain ⟨k, rfl⟩ : ∃ m, k = m + 1 := ⟨k - 1, by omega⟩
    rw [cognateref01_Back.l0, if_neg (by omega), List.drop_eq_nil_of_le (by omega)]
    simp
  | succ d ih =>
    intro n k acc hd h1 ha hk
    obtain ⟨k, rfl⟩ : ∃ m, k = m + 1 + 1 := ⟨k - 2, by omega⟩
    have hn : n < (pieces s).length := by omega
    have he := enc_le (pieces s)[n].f0
    rw [cognateref01_Back.l0, if_pos (by omega), if_pos (by omega), rd_at _ n (pieces s)[n] (by simp [hn]), one_eq, Option.bind_some, if_pos (by omega), w64 (by omega) (by omega)]
    have := ih (n + 1) (k + 1) (acc ++ bytesOf (Utf8.encode (pieces s)[n].f0)) (by omega) (by omega) (by rw [List.length_append]; omega) (by omega)
    rw [show (((n + 1 : Nat)) : Int) = (n : Int) + 1 by omega] at this
    rw [this, List.drop_eq_getElem_cons hn, List.map_cons, List.flatten_cons, List.append_assoc]
theorem pieces_f0 (s : ByteArray) : (pieces s).map (fun p => p.f0) = runesOf s := by simp [pieces, runesOf, piece, Function.comp_def]
theorem refBack_eq (s : ByteArray) (h : (s.size : Int) ≤ 65536) (k : Nat) (hk : s.size + 12 ≤ k) : cognateref01_Back.f k s = some (runesBytes (runesOf s), 0) := by
  have hl := pieces_length s
  unfold cognateref01_Back.f
  rw [refPieces_eq s (by omega) k (by omega), Option.bind_some, if_pos rfl]
  have := Back_loop s (by omega) (pieces s).length 0 k [] (by omega) (by omega) (by simp) (by omega)
  refine this.trans ?_
  rw [List.drop_zero, List.nil_append, ← string_of_bytes (runesBytes (runesOf s)), runesBytes_bytes, ← pieces_f0, List.map_map]
  rfl
theorem refBack_big (s : ByteArray) (h : (s.size : Int) > 65536) (k : Nat) : cognateref01_Back.f k s = some (⟨#[]⟩, 3) := by
  unfold cognateref01_Back.f
  rw [refPieces_big s h, Option.bind_some, if_neg (by simp)]

theorem Broken_loop (s : ByteArray) (hs : s.size ≤ 100000) (d : Nat) : ∀ (n k : Nat), (pieces s).length - n = d → n ≤ (pieces s).length → d + 1 ≤ k →
    cognateref01_Broken.l0 k (pieces s) n = some ((match ((pos s 0).drop n).find? (fun j => decide (dc s j = bad)) with | some j => (j : Int) | none => -1), 0) := by
  have hl := pieces_length s
  have hn' : (pieces s).length = (pos s 0).length := by simp [pieces]
  induction d with
  | zero =>
    intro n k hd h1 hk
    obtain ⟨k, rfl⟩ : ∃ m, k = m + 1 := ⟨k - 1, by omega⟩
    rw [cognateref01_Broken.l0, if_neg (by omega), List.drop_eq_nil_of_le (by omega)]
    rfl
  | succ d ih =>
    intro n k hd h1 hk
    obtain ⟨k, rfl⟩ : ∃ m, k = m + 1 := ⟨k - 1, by omega⟩
    have hn : n < (pos s 0).length := by omega
    rw [cognateref01_Broken.l0, if_pos (by omega), if_pos (by omega), rd_at _ n (piece s (pos s 0)[n]) (by simp [pieces, hn]), List.drop_eq_getElem_cons hn]
    by_cases hb : dc s (pos s 0)[n] = bad
    · rw [if_pos (by simpa [piece] using hb), List.find?_cons_of_pos (by simpa using hb)]
      rfl
    · rw [if_neg (by simpa [piece] using hb), List.find?_cons_of_neg (by simpa using hb), w64 (by omega) (by omega)]
      exact ih (n + 1) k (by omega) (by omega) (by omega)
theorem refBroken_eq (s : ByteArray) (h : (s.size : Int) ≤ 65536) (k : Nat) (hk : s.size + 12 ≤ k) : cognateref01_Broken.f k s = some (brokenAt s 0, 0) := by
  have hl := pieces_length s
  unfold cognateref01_Broken.f
  rw [refPieces_eq s (by omega) k (by omega), Option.bind_some, if_pos rfl]
  exact Broken_loop s (by omega) (pieces s).length 0 k (by omega) (by omega) (by omega)
theorem refBroken_big (s : ByteArray) (h : (s.size : Int) > 65536) (k : Nat) : cognateref01_Broken.f k s = some (0, 3) := by
  unfold cognateref01_Broken.f
  rw [refPieces_big s h, Option.bind_some, if_neg (by simp)]

theorem Same_loop (l : List S35) (hl : l.length < 1000000000) (d : Nat) : ∀ (n k : Nat), l.length - n = d → n ≤ l.length → d + 1 ≤ k → cognateref01_Same.l0 k l l n = some true := by
  induction d with
  | zero =>
    intro n k hd h1 hk
    obtain ⟨k, rfl⟩ : ∃ m, k = m + 1 := ⟨k - 1, by omega⟩
    rw [cognateref01_Same.l0, if_neg (by omega)]
  | succ d ih =>
    intro n k hd h1 hk
    obtain ⟨k, rfl⟩ : ∃ m, k = m + 1 := ⟨k - 1, by omega⟩
    rw [cognateref01_Same.l0, if_pos (by omega), if_pos (by omega), if_pos (by omega), if_neg (by simp), w64 (by omega) (by omega)]
    exact ih (n + 1) k (by omega) (by omega) (by omega)
theorem Same_eq (l : List S35) (hl : l.length < 1000000000) (k : Nat) (hk : l.length + 1 ≤ k) : cognateref01_Same.f k l l = some true := by
  unfold cognateref01_Same.f
  rw [if_pos rfl]
  exact Same_loop l hl l.length 0 k (by omega) (by omega) (by omega)

theorem Texts_loop (s : ByteArray) (l m : List S35) (c : Int) (hp : runes_Pieces.f s = some (m, c)) (hm : m.length < 100000000) (d : Nat) : ∀ (n k : Nat) (l : List S35), l.length < 1000000000 → l.length - n = d → n ≤ l.length → d + m.length + 3 ≤ k → cognatelaw01_RunesTexts.l0 k s l m c n = some true := by
  induction d with
  | zero =>
    intro n k l hl hd h1 hk
    obtain ⟨k, rfl⟩ : ∃ m, k = m + 1 := ⟨k - 1, by omega⟩
    rw [cognatelaw01_RunesTexts.l0, if_neg (by omega), hp, Option.bind_some, if_pos rfl, Same_eq m (by omega) k (by omega)]
    rfl
  | succ d ih =>
    intro n k l hl hd h1 hk
    obtain ⟨k, rfl⟩ : ∃ m, k = m + 1 := ⟨k - 1, by omega⟩
    rw [cognatelaw01_RunesTexts.l0, if_pos (by omega), if_pos (by omega), w64 (by omega) (by omega)]
    exact ih (n + 1) k _ (by simpa using hl) (by simp; omega) (by simp; omega) (by omega)

theorem Len_eq (s : ByteArray) (h : (s.size : Int) ≤ 65536) : runes_Len.f s = some (((pieces s).length : Int), 0) := by
  unfold runes_Len.f runes_long.f utf8_RuneCountInString.f
  rw [if_neg (by omega), Option.bind_some, if_pos rfl, if_pos (by omega)]
  rfl
theorem Len_big (s : ByteArray) (h : (s.size : Int) > 65536) : runes_Len.f s = some (0, 3) := by
  unfold runes_Len.f runes_long.f
  rw [if_pos h, Option.bind_some, if_neg (by simp)]

/-- RunesTexts' pure statement. -/
theorem RunesTexts_pure : cognatelaw01_RunesTexts.Pure := by
  intro s lo hi ha _ _
  have hl := pieces_length s
  refine ⟨2 * s.size + 40, ?_⟩
  have hfr : ∀ h : (s.size : Int) ≤ 65536, cognateref01_Len.f (2 * s.size + 40) s = some (((pieces s).length : Int), 0) := fun h => by
    unfold cognateref01_Len.f
    rw [refPieces_eq s (by omega) _ (by omega)]
    rfl
  unfold cognatelaw01_RunesTexts.f cognatelaw01_long.f
  by_cases c1 : (s.size : Int) ≤ 3000
  · rw [if_neg (by omega), Option.bind_some, if_neg (by simp; omega)]
    obtain ⟨x, hx⟩ : ∃ x, runes_Part.f s lo hi = some x := by unfold runes_Part.f; (repeat' split) <;> exact ⟨_, rfl⟩
    have hp : runes_Pieces.f s = some (pieces s, 0) := by unfold runes_Pieces.f; rw [if_neg (by omega)]
    have hbk : runes_Back.f s = some (runesBytes (runesOf s), 0) := by unfold runes_Back.f; rw [if_neg (by omega)]
    have hbr : runes_Broken.f s = some (brokenAt s 0, 0) := by unfold runes_Broken.f; rw [if_neg (by omega)]
    have hrp : cognateref01_Part.f s lo hi = some x := hx
    rw [hp, Option.bind_some, refPieces_eq s (by omega) _ (by omega), Option.bind_some, Len_eq s (by omega), Option.bind_some, hfr (by omega), Option.bind_some, hbr, Option.bind_some, refBroken_eq s (by omega) _ (by omega), Option.bind_some, hx, Option.bind_some, hrp, Option.bind_some, hbk, Option.bind_some, refBack_eq s (by omega) _ (by omega), Option.bind_some]
    simp only [if_true]
    rw [Same_eq (pieces s) (by omega) _ (by omega), Option.bind_some, Bool.not_true, show 2 * s.size + 40 = (2 * s.size + 39) + 1 by omega, cognatelaw01_RunesTexts.j0, if_neg (by simp)]
    exact Texts_loop s (pieces s) (pieces s) 0 hp (by omega) (pieces s).length 0 _ (pieces s) (by omega) (by omega) (by omega) (by omega)
  · rw [if_pos (by omega)]
    by_cases c2 : (s.size : Int) ≤ 65536
    · rw [if_pos c2, Option.bind_some, if_pos rfl]
    · rw [if_neg c2, Option.bind_some]
      by_cases c3 : (s.size : Int) > 66000
      · rw [if_pos (by simpa using c3)]
      · rw [if_neg (by simpa using c3)]
        have hx : runes_Part.f s lo hi = some (⟨#[]⟩, 3) := by unfold runes_Part.f; rw [if_pos (by omega)]
        have hp : runes_Pieces.f s = some ([], 3) := by unfold runes_Pieces.f; rw [if_pos (by omega)]
        have hbk : runes_Back.f s = some (⟨#[]⟩, 3) := by unfold runes_Back.f; rw [if_pos (by omega)]
        have hbr : runes_Broken.f s = some (0, 3) := by unfold runes_Broken.f; rw [if_pos (by omega)]
        have hrp : cognateref01_Part.f s lo hi = some (⟨#[]⟩, 3) := hx
        have hfl : cognateref01_Len.f (2 * s.size + 40) s = some (0, 3) := by unfold cognateref01_Len.f; rw [refPieces_big s (by omega)]; rfl
        rw [hp, Option.bind_some, refPieces_big s (by omega), Option.bind_some, Len_big s (by omega), Option.bind_some, hfl, Option.bind_some, hbr, Option.bind_some, refBroken_big s (by omega), Option.bind_some, hx, Option.bind_some, hrp, Option.bind_some, hbk, Option.bind_some, refBack_big s (by omega), Option.bind_some]
        simp only [if_true]
        rw [Same_eq [] (by simp) _ (by simp), Option.bind_some, Bool.not_true, show 2 * s.size + 40 = (2 * s.size + 39) + 1 by omega, cognatelaw01_RunesTexts.j0, if_neg (by simp)]
        exact Texts_loop s [] [] 3 hp (by simp) 0 0 _ [] (by simp) (by simp) (by simp) (by simp)

end Go.Proofs.YtglaagoblcpggaaDoor.R
