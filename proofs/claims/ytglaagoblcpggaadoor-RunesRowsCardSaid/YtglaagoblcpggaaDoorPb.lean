/- What the reference's At and All compute: the pieces. Plain Lean over the printed functions. -/
import Derived.Test.YtglaagoblcpggaaDoorPa
import Derived.Test.YtglaagoblcpggaaDoorF51
import Derived.Test.YtglaagoblcpggaaDoorF33
namespace Go.Proofs.YtglaagoblcpggaaDoor.R
open Go.RowKit Go.Proofs.YtglaagoblcpggaaDoorW.PrintWords

theorem tail_eq (c : Int) : cognateref01_tail.f c = some (decide (128 ≤ c ∧ c < 192)) := by
  unfold cognateref01_tail.f
  by_cases h : c ≥ 128
  · rw [if_pos h]; congr 1; simp; omega
  · rw [if_neg h]; congr 1; simp; omega
def isRune (c : Int) : Prop := 0 ≤ c ∧ c ≤ 1114111 ∧ (c < 55296 ∨ 57343 < c)
instance (c : Int) : Decidable (isRune c) := by unfold isRune; infer_instance
theorem Rune_eq (c : Int) : cognateref01_Rune.f c = some (decide (isRune c)) := by
  unfold cognateref01_Rune.f
  by_cases h : c ≥ 0
  · rw [if_pos h]
    by_cases h1 : c ≤ 1114111
    · rw [if_pos h1]
      by_cases h2 : c < 55296
      · rw [if_pos h2]; exact congrArg some (decide_eq_true (by unfold isRune; omega)).symm
      · rw [if_neg h2]; exact congrArg some (decide_eq_decide.2 (by unfold isRune; omega))
    · rw [if_neg h1]; exact congrArg some (decide_eq_false (by unfold isRune; omega)).symm
  · rw [if_neg h]; exact congrArg some (decide_eq_false (by unfold isRune; omega)).symm

theorem At_loop (s : ByteArray) (i : Nat) (hs : s.size ≤ 140737488351232) (k : Nat) (l r : Int) (j : Nat) (x0 x1 x2 : Int) (x3 : Bool) (hl : (j : Int) < l) (hj : j < 4) (hi : i + j < s.size) (hr0 : 0 ≤ r) (hr1 : r ≤ 1114111) :
    cognateref01_At.l0 (k + 1) s i l r j x0 x1 x2 x3 =
      if 128 ≤ (s.get! (i + j)).toNat ∧ (s.get! (i + j)).toNat < 192 then cognateref01_At.l0 k s i l (64 * r + ((s.get! (i + j)).toNat - 128)) ((j + 1 : Nat) : Int) x0 x1 x2 x3 else some (x0, x1, x2, x3) := by
  have hb := get_lt s (i + j)
  have e1 : wrap64 ((i : Int) + (j : Int)) = ((i + j : Nat) : Int) := by rw [w64] <;> omega
  have e2 : wrap64 ((j : Int) + 1) = ((j + 1 : Nat) : Int) := by rw [w64] <;> omega
  simp only [cognateref01_At.l0]
  rw [if_pos hl, e1, e2, if_pos (by omega), if_pos (by omega), bt_get s (i + j) hi, tail_eq, Option.bind_some]
  by_cases h : 128 ≤ (s.get! (i + j)).toNat ∧ (s.get! (i + j)).toNat < 192
  · have h' : (128 : Int) ≤ ((s.get! (i + j)).toNat : Int) ∧ ((s.get! (i + j)).toNat : Int) < 192 := by omega
    rw [if_pos (by simpa using h'), if_pos h]
    congr 1
    unfold wrap32
    omega
  · have h' : ¬ ((128 : Int) ≤ ((s.get! (i + j)).toNat : Int) ∧ ((s.get! (i + j)).toNat : Int) < 192) := by omega
    rw [if_neg (by simpa using h'), if_neg h]

theorem At_last (s : ByteArray) (i : Int) (k : Nat) (l r : Int) (x0 x1 x2 : Int) (x3 : Bool) (m : Int) (hl : l = 2 ∧ m = 128 ∨ l = 3 ∧ m = 2048 ∨ l = 4 ∧ m = 65536) :
    cognateref01_At.l0 (k + 1) s i l r l x0 x1 x2 x3 = if m ≤ r ∧ isRune r then some (r, i, l, false) else some (x0, x1, x2, x3) := by
  simp only [cognateref01_At.l0]
  rw [if_neg (by omega), Option.bind_some, if_pos (by omega), if_pos (by simp; omega), Rune_eq, Option.bind_some]
  have hrd : rd [0, 0, 128, 2048, 65536] l = m := by
    rcases hl with ⟨rfl, rfl⟩ | ⟨rfl, rfl⟩ | ⟨rfl, rfl⟩ <;> rfl
  rw [hrd]
  by_cases h1 : r < m
  · rw [if_pos h1, if_neg (by omega)]
  · rw [if_neg h1]
    by_cases h2 : isRune r
    · rw [if_pos (by simpa using h2), if_pos ⟨by omega, h2⟩]
    · rw [if_neg (by simpa using h2), if_neg (fun h => h2 h.2)]

theorem At_long (s : ByteArray) (i : Nat) (hs : s.size ≤ 140737488351232) (hi : i < s.size) (k : Nat) (l : Nat) (r : Int) (hl : l = 2 ∨ l = 3 ∨ l = 4) :
    cognateref01_At.j2 (k + 8) s i l r = if i + l ≤ s.size then cognateref01_At.l0 (k + 6) s i l r ((1 : Nat) : Int) 65533 i 1 true else some (65533, (i : Int), 1, true) := by
  have e1 : wrap64 ((i : Int) + (l : Int)) = ((i + l : Nat) : Int) := by rw [w64] <;> omega
  rw [cognateref01_At.j2, if_neg (by omega), e1, cognateref01_At.j3]
  by_cases h : i + l ≤ s.size
  · rw [if_pos h, if_neg (by simp; omega)]; rfl
  · rw [if_neg h, if_pos (by simp; omega)]

/-- WHAT At COMPUTES. -/
def AtIs (s : ByteArray) (i : Nat) : Int × Int × Int × Bool := (((dc s i).1 : Int), (i : Int), ((dc s i).2 : Int), decide (dc s i = bad))
theorem AtIs_of {s : ByteArray} {i : Nat} {r n : Nat} (h : dc s i = (r, n)) : AtIs s i = ((r : Int), (i : Int), (n : Int), decide ((r, n) = bad)) := by
  unfold AtIs
  rw [h]

set_option maxHeartbeats 1000000 in
theorem At_eq (s : ByteArray) (i : Nat) (hs : s.size ≤ 140737488351232) (hi : i < s.size) (k : Nat) : cognateref01_At.f (k + 10) s i = some (AtIs s i) := by
  have hN := dc_N s i
  obtain ⟨n, hn⟩ : ∃ n, s.size - i = n := ⟨_, rfl⟩
  obtain ⟨b0, h0⟩ : ∃ b, (s.get! i).toNat = b := ⟨_, rfl⟩
  obtain ⟨b1, h1⟩ : ∃ b, (s.get! (i + 1)).toNat = b := ⟨_, rfl⟩
  obtain ⟨b2, h2⟩ : ∃ b, (s.get! (i + 2)).toNat = b := ⟨_, rfl⟩
  obtain ⟨b3, h3⟩ : ∃ b, (s.get! (i + 3)).toNat = b := ⟨_, rfl⟩
  have g0 := get_lt s i
  have g1 := get_lt s (i + 1)
  have g2 := get_lt s (i + 2)
  have g3 := get_lt s (i + 3)
  rw [hn, h0, h1, h2, h3] at hN
  rw [h0] at g0
  rw [h1] at g1
  rw [h2] at g2
  rw [h3] at g3
  have one_ : dc s i = bad → some ((65533 : Int), (i : Int), (1 : Int), true) = some (AtIs s i) := fun h => by rw [AtIs_of h]; rfl
  unfold cognateref01_At.f
  rw [if_pos (by omega), if_pos (by omega), bt_get s i hi, h0]
  by_cases c1 : b0 < 128
  · rw [if_pos (by omega)]
    have hd : dc s i = (b0, 1) := by rw [hN]; unfold Lib.decodeN; rw [if_pos c1]
    rw [AtIs_of hd, w32 (by omega) (by omega)]
    simp [bad]
    omega
  · rw [if_neg (by omega)]
    by_cases c2 : b0 ≥ 192
    · rw [if_pos (by omega), cognateref01_At.j0]
      by_cases c3 : b0 < 224
      · rw [if_pos (by simp; omega)]
        have e : ((b0 : Int) - 192) % 256 = (b0 - 192 : Nat) := by omega
        rw [e]
        have := At_long s i hs hi (k + 1) 2 ((b0 - 192 : Nat) : Int) (by omega)
        rw [show ((2 : Nat) : Int) = 2 from rfl] at this
        rw [this]
        by_cases c4 : i + 2 ≤ s.size
        · rw [if_pos c4, At_loop s i hs (k + 6) 2 _ 1 _ _ _ _ (by omega) (by omega) (by omega) (by omega) (by omega), h1]
          by_cases c5 : 128 ≤ b1 ∧ b1 < 192
          · rw [if_pos c5, show ((1 + 1 : Nat) : Int) = 2 from rfl, At_last s i (k + 5) 2 _ _ _ _ _ 128 (by omega)]
            by_cases c6 : 128 ≤ 64 * ((b0 - 192 : Nat) : Int) + ((b1 : Int) - 128) ∧ isRune (64 * ((b0 - 192 : Nat) : Int) + ((b1 : Int) - 128))
            · rw [if_pos c6]
              have hd : dc s i = ((b0 - 192) * 64 + (b1 - 128), 2) := by
                rw [hN]
                unfold Lib.decodeN isRune at *
                repeat' split
                all_goals first | (exfalso; omega) | (apply Prod.ext <;> simp only <;> omega)
              rw [AtIs_of hd]
              simp [bad]
              omega
            · rw [if_neg c6]
              refine one_ ?_
              rw [hN]
              unfold Lib.decodeN isRune at *
              repeat' split
              all_goals first | (exfalso; omega) | rfl
          · rw [if_neg c5]
            refine one_ ?_
            rw [hN]
            unfold Lib.decodeN
            repeat' split
            all_goals first | (exfalso; omega) | rfl
        · rw [if_neg c4]
          refine one_ ?_
          rw [hN]
          unfold Lib.decodeN
          repeat' split
          all_goals first | (exfalso; omega) | rfl
      · rw [if_neg (by simp; omega), if_pos (by omega), cognateref01_At.j1]
        by_cases c4 : b0 < 240
        · rw [if_pos (by simp; omega)]
          have e : ((b0 : Int) - 224) % 256 = (b0 - 224 : Nat) := by omega
          rw [e]
          have := At_long s i hs hi k 3 ((b0 - 224 : Nat) : Int) (by omega)
          rw [show ((3 : Nat) : Int) = 3 from rfl] at this
          rw [this]
          by_cases c5 : i + 3 ≤ s.size
          · rw [if_pos c5, At_loop s i hs (k + 5) 3 _ 1 _ _ _ _ (by omega) (by omega) (by omega) (by omega) (by omega), h1]
            by_cases c6 : 128 ≤ b1 ∧ b1 < 192
            · rw [if_pos c6, At_loop s i hs (k + 4) 3 _ (1 + 1) _ _ _ _ (by omega) (by omega) (by omega) (by omega) (by omega), h2]
              by_cases c7 : 128 ≤ b2 ∧ b2 < 192
              · rw [if_pos c7, show ((1 + 1 + 1 : Nat) : Int) = 3 from rfl, At_last s i (k + 3) 3 _ _ _ _ _ 2048 (by omega)]
                by_cases c8 : 2048 ≤ 64 * (64 * ((b0 - 224 : Nat) : Int) + ((b1 : Int) - 128)) + ((b2 : Int) - 128) ∧ isRune (64 * (64 * ((b0 - 224 : Nat) : Int) + ((b1 : Int) - 128)) + ((b2 : Int) - 128))
                · rw [if_pos c8]
                  have hd : dc s i = ((b0 - 224) * 4096 + (b1 - 128) * 64 + (b2 - 128), 3) := by
                    rw [hN]
                    unfold Lib.decodeN isRune at *
                    repeat' split
                    all_goals first | (exfalso; omega) | (apply Prod.ext <;> simp only <;> omega)
                  rw [AtIs_of hd]
                  simp [bad]
                  omega
                · rw [if_neg c8]
                  refine one_ ?_
                  rw [hN]
                  unfold Lib.decodeN isRune at *
                  repeat' split
                  all_goals first | (exfalso; omega) | rfl
              · rw [if_neg c7]
                refine one_ ?_
                rw [hN]
                unfold Lib.decodeN
                repeat' split
                all_goals first | (exfalso; omega) | rfl
            · rw [if_neg c6]
              refine one_ ?_
              rw [hN]
              unfold Lib.decodeN
              repeat' split
              all_goals first | (exfalso; omega) | rfl
          · rw [if_neg c5]
            refine one_ ?_
            rw [hN]
            unfold Lib.decodeN
            repeat' split
            all_goals first | (exfalso; omega) | rfl
        · rw [if_neg (by simp; omega), if_pos (by omega)]
          by_cases c5 : b0 < 248
          · rw [if_pos (by omega)]
            have e : ((b0 : Int) - 240) % 256 = (b0 - 240 : Nat) := by omega
            rw [e]
            have := At_long s i hs hi k 4 ((b0 - 240 : Nat) : Int) (by omega)
            rw [show ((4 : Nat) : Int) = 4 from rfl] at this
            rw [this]
            by_cases c6 : i + 4 ≤ s.size
            · rw [if_pos c6, At_loop s i hs (k + 5) 4 _ 1 _ _ _ _ (by omega) (by omega) (by omega) (by omega) (by omega), h1]
              by_cases c7 : 128 ≤ b1 ∧ b1 < 192
              · rw [if_pos c7, At_loop s i hs (k + 4) 4 _ (1 + 1) _ _ _ _ (by omega) (by omega) (by omega) (by omega) (by omega), h2]
                by_cases c8 : 128 ≤ b2 ∧ b2 < 192
                · rw [if_pos c8, At_loop s i hs (k + 3) 4 _ (1 + 1 + 1) _ _ _ _ (by omega) (by omega) (by omega) (by omega) (by omega), h3]
                  by_cases c9 : 128 ≤ b3 ∧ b3 < 192
                  · rw [if_pos c9, show ((1 + 1 + 1 + 1 : Nat) : Int) = 4 from rfl, At_last s i (k + 2) 4 _ _ _ _ _ 65536 (by omega)]
                    by_cases c10 : 65536 ≤ 64 * (64 * (64 * ((b0 - 240 : Nat) : Int) + ((b1 : Int) - 128)) + ((b2 : Int) - 128)) + ((b3 : Int) - 128) ∧ isRune (64 * (64 * (64 * ((b0 - 240 : Nat) : Int) + ((b1 : Int) - 128)) + ((b2 : Int) - 128)) + ((b3 : Int) - 128))
                    · rw [if_pos c10]
                      have hd : dc s i = ((b0 - 240) * 262144 + (b1 - 128) * 4096 + (b2 - 128) * 64 + (b3 - 128), 4) := by
                        rw [hN]
                        unfold Lib.decodeN isRune at *
                        repeat' split
                        all_goals first | (exfalso; omega) | (apply Prod.ext <;> simp only <;> omega)
                      rw [AtIs_of hd]
                      simp [bad]
                      omega
                    · rw [if_neg c10]
                      refine one_ ?_
                      rw [hN]
                      unfold Lib.decodeN isRune at *
                      repeat' split
                      all_goals first | (exfalso; omega) | rfl
                  · rw [if_neg c9]
                    refine one_ ?_
                    rw [hN]
                    unfold Lib.decodeN
                    repeat' split
                    all_goals first | (exfalso; omega) | rfl
                · rw [if_neg c8]
                  refine one_ ?_
                  rw [hN]
                  unfold Lib.decodeN
                  repeat' split
                  all_goals first | (exfalso; omega) | rfl
              · rw [if_neg c7]
                refine one_ ?_
                rw [hN]
                unfold Lib.decodeN
                repeat' split
                all_goals first | (exfalso; omega) | rfl
            · rw [if_neg c6]
              refine one_ ?_
              rw [hN]
              unfold Lib.decodeN
              repeat' split
              all_goals first | (exfalso; omega) | rfl
          · rw [if_neg (by omega), cognateref01_At.j2, if_pos rfl, cognateref01_At.j3, if_pos rfl]
            refine one_ ?_
            rw [hN]
            unfold Lib.decodeN
            repeat' split
            all_goals first | (exfalso; omega) | rfl
    · rw [if_neg (by omega), cognateref01_At.j0, if_neg (by simp), if_neg (by omega), cognateref01_At.j1, if_neg (by simp), if_neg (by omega), cognateref01_At.j2, if_pos rfl, cognateref01_At.j3, if_pos rfl]
      refine one_ ?_
      rw [hN]
      unfold Lib.decodeN
      repeat' split
      all_goals first | (exfalso; omega) | rfl

theorem All_loop (s : ByteArray) (hs : s.size ≤ 140737488351232) (hs2 : s.size < 4398046511104) (i : Nat) : ∀ (k : Nat) (acc : List S35), i ≤ s.size → acc.length ≤ i → s.size - i + 11 ≤ k → cognateref01_All.l0 k s acc i = some (acc ++ (pos s i).map (piece s)) := by
  refine by_pieces s (P := fun i => ∀ (k : Nat) (acc : List S35), i ≤ s.size → acc.length ≤ i → s.size - i + 11 ≤ k → cognateref01_All.l0 k s acc i = some (acc ++ (pos s i).map (piece s))) ?_ ?_ i
  · intro i h k acc _ _ hk
    obtain ⟨k, rfl⟩ : ∃ m, k = m + 1 := ⟨k - 1, by omega⟩
    simp only [cognateref01_All.l0]
    rw [if_neg (by omega), pos_end s i h]
    simp
  · intro i h ih k acc hi ha hk
    obtain ⟨k, rfl⟩ : ∃ m, k = m + 10 + 1 := ⟨k - 11, by omega⟩
    have hb := dc_bounds s i h
    rw [cognateref01_All.l0]
    rw [if_pos (by omega), At_eq s i hs h k, Option.bind_some, if_pos (by omega)]
    have e : wrap64 ((i : Int) + (AtIs s i).2.2.1) = ((i + (dc s i).2 : Nat) : Int) := by
      show wrap64 ((i : Int) + ((dc s i).2 : Int)) = _
      rw [w64] <;> omega
    rw [e, ih _ _ (by omega) (by simp; omega) (by omega), pos_step s i h]
    simp [piece, AtIs]

theorem All_eq (s : ByteArray) (hs2 : s.size < 4398046511104) (k : Nat) (hk : s.size + 11 ≤ k) : cognateref01_All.f k s = some (pieces s) := by
  unfold cognateref01_All.f
  have := All_loop s (by omega) hs2 0 k [] (by omega) (by simp) (by omega)
  simpa [pieces] using this

end Go.Proofs.YtglaagoblcpggaaDoor.R
