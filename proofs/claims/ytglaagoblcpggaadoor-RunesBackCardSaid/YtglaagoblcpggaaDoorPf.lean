/- The order is an order, and the keys tell the text; alive() answers yes; RunesRows' pure statement. Plain Lean over the printed functions. -/
import Derived.Test.YtglaagoblcpggaaDoorPd
import Derived.Test.YtglaagoblcpggaaDoorF5
import Derived.Lib.MapLaws
set_option linter.unusedVariables false
set_option linter.unusedSimpArgs false
namespace Go.Proofs.YtglaagoblcpggaaDoor.R
open Go.RowKit Go.Proofs.YtglaagoblcpggaaDoorW.PrintWords

theorem lex_self : ∀ l, lex l l = false
  | [] => rfl
  | x :: l => by rw [lex, if_pos rfl]; exact lex_self l
theorem lex_asym : ∀ l m, lex l m = true → lex m l = false
  | _, [], h => by cases h' : (‹List Nat› : List Nat) <;> simp_all [lex]
  | [], _ :: _, _ => rfl
  | x :: l, y :: m, h => by
    rw [lex] at h ⊢
    by_cases e : x = y
    · rw [if_pos e] at h
      rw [if_pos e.symm]
      exact lex_asym l m h
    · rw [if_neg e] at h
      rw [if_neg (Ne.symm e)]
      have := of_decide_eq_true h
      exact decide_eq_false (by omega)
theorem lex_total : ∀ l m, lex l m = false → lex m l = false → l = m
  | [], [], _, _ => rfl
  | [], _ :: _, h, _ => by simp [lex] at h
  | _ :: _, [], _, h => by simp [lex] at h
  | x :: l, y :: m, h1, h2 => by
    rw [lex] at h1 h2
    by_cases e : x = y
    · rw [if_pos e] at h1
      rw [if_pos e.symm] at h2
      rw [e, lex_total l m h1 h2]
    · rw [if_neg e] at h1
      rw [if_neg (Ne.symm e)] at h2
      have a := of_decide_eq_false h1
      have b := of_decide_eq_false h2
      omega
theorem lex_trans : ∀ l m n, lex l m = true → lex m n = true → lex l n = true
  | _, [], _, h, _ => by cases h' : (‹List Nat› : List Nat) <;> simp_all [lex]
  | _, _ :: _, [], _, h => by simp [lex] at h
  | [], _ :: _, _ :: _, _, _ => rfl
  | x :: l, y :: m, z :: n, h1, h2 => by
    rw [lex] at h1 h2 ⊢
    by_cases e : x = y
    · rw [if_pos e] at h1
      subst e
      by_cases e2 : x = z
      · rw [if_pos e2] at h2
        rw [if_pos e2]
        exact lex_trans l m n h1 h2
      · rw [if_neg e2] at h2
        rw [if_neg e2]
        exact h2
    · rw [if_neg e] at h1
      have a := of_decide_eq_true h1
      by_cases e2 : y = z
      · subst e2
        rw [if_neg e]
        exact h1
      · rw [if_neg e2] at h2
        have b := of_decide_eq_true h2
        rw [if_neg (by omega)]
        exact decide_eq_true (by omega)

/-- The bytes that a key stands for. -/
def keyB (k : Nat) : List UInt8 := if 1114112 ≤ k then [(k - 1114112).toUInt8] else Lib.encodeRune (k : Int)
theorem tail_list (s : ByteArray) (i : Nat) : (s.extract i s.size).data.toList = s.data.toList.drop i := by
  have esz : s.size = s.data.size := rfl
  rw [ByteArray.data_extract, Array.toList_extract, List.extract_eq_take_drop, List.take_of_length_le (by rw [List.length_drop, Array.length_toList, esz]; omega)]
theorem dc_take (s : ByteArray) (i : Nat) (h : i < s.size) (hb : ¬ dc s i = bad) : (s.data.toList.drop i).take (dc s i).2 = Lib.encodeRune ((dc s i).1 : Int) := by
  have hl : (s.extract i s.size).data.toList ≠ [] := by
    rw [tail_list]
    intro e
    have := congrArg List.length e
    simp only [List.length_drop, Array.length_toList, List.length_nil] at this
    have e2 : s.data.size = s.size := rfl
    omega
  have hd : Lib.decodeL (s.extract i s.size).data.toList = dc s i := by
    have := dc_tail s i 0
    rw [Nat.add_zero] at this
    rw [← this]
    rfl
  have := Lib.encode_decode _ hl (by rw [hd]; exact fun e => hb ((bad_iff s i h).2 e))
  rw [hd] at this
  rw [this, tail_list]
theorem keys_text (s : ByteArray) (i : Nat) : s.data.toList.drop i = (keys s i).flatMap keyB := by
  have esz : s.data.size = s.size := rfl
  refine by_pieces s (P := fun i => s.data.toList.drop i = (keys s i).flatMap keyB) ?_ ?_ i
  · intro i h
    rw [keys_end s i h, List.drop_eq_nil_of_le (by rw [Array.length_toList]; omega)]
    rfl
  · intro i h ih
    have hb := dc_bounds s i h
    rw [keys_step s i h, List.flatMap_cons, ← ih, ← List.drop_drop, ← List.take_append_drop (dc s i).2 (s.data.toList.drop i)]
    congr 1
    · unfold key keyB
      by_cases e : dc s i = bad
      · rw [if_pos e, if_pos (by omega), e, Nat.add_sub_cancel_left, get_of_lt s i h]
        rw [List.drop_eq_getElem_cons (by rw [Array.length_toList]; omega)]
        show [s.data.toList[i]] = _
        simp [ByteArray.getElem_eq_getElem_data]
      · rw [if_neg e, if_neg (by omega)]
        exact dc_take s i h e
    · rw [List.take_append_drop]
theorem keys_inj (a b : ByteArray) (h : keys a 0 = keys b 0) : a = b := by
  have h1 := keys_text a 0
  have h2 := keys_text b 0
  rw [List.drop_zero] at h1 h2
  rw [← h, ← h1] at h2
  exact ByteArray.ext (Array.toList_inj.1 h2.symm)

theorem alive_eq (k : Nat) (hk : 7 ≤ k) : cognatelaw01_alive.f k = some true := by
  have hl := Less_eq ⟨#[97]⟩ ⟨#[98]⟩ (by decide) (by decide) k hk
  unfold cognatelaw01_alive.f
  have h1 : runes_Pieces.f (⟨#[97, 255]⟩ : ByteArray) = some ([⟨97, 0, 1, false⟩, ⟨65533, 1, 1, true⟩], 0) := by rfl
  have h2 : runes_Quote.f (⟨#[97, 255]⟩ : ByteArray) = some (⟨#[34, 97, 92, 120, 102, 102, 34]⟩, 0) := by rfl
  have h3 : runes_Text.f [97] = some (⟨#[97]⟩) := by rfl
  rw [h1, Option.bind_some, h2, Option.bind_some]
  simp only
  rw [if_pos trivial, if_pos (by decide), if_pos (by decide), if_pos (by decide), if_pos (by decide), if_pos (by decide), if_pos trivial, if_pos (by rw [Lib.toList_data]), h3, Option.bind_some, if_pos (by rw [Lib.toList_data]), hl]
  rfl

/-- RunesRows' pure statement. -/
theorem RunesRows_pure : cognatelaw01_RunesRows.Pure := by
  intro a b c ha hb hc
  refine ⟨5 * a.size + 5 * b.size + 5 * c.size + 30, ?_⟩
  obtain ⟨k, hk⟩ : ∃ k, 5 * a.size + 5 * b.size + 5 * c.size + 30 = k + 1 := ⟨5 * a.size + 5 * b.size + 5 * c.size + 29, rfl⟩
  have skip : cognatelaw01_RunesRows.j0 (k + 1) a b c true = some true := by rw [cognatelaw01_RunesRows.j0, if_pos rfl, alive_eq k (by omega)]; rfl
  have main : cognatelaw01_RunesRows.j0 (k + 1) a b c false = some true := by
    rw [cognatelaw01_RunesRows.j0, if_neg (by simp), Less_eq a b ha hb k (by omega), Option.bind_some, Less_eq b c hb hc k (by omega), Option.bind_some, Less_eq a c ha hc k (by omega), Option.bind_some, Less_eq b a hb ha k (by omega), Option.bind_some, alive_eq k (by omega), Option.bind_some, if_pos rfl, Less_eq a a ha ha k (by omega), Option.bind_some, lex_self, if_neg (by simp)]
    have hsame : (a.toList == b.toList) = (!(lex (keys a 0) (keys b 0)) && !(lex (keys b 0) (keys a 0))) := by
      cases h1 : lex (keys a 0) (keys b 0) with
      | true =>
        simp only [Bool.not_true, Bool.false_and]
        refine beq_eq_false_iff_ne.2 fun e => ?_
        have : a = b := by rw [Lib.toList_data, Lib.toList_data] at e; exact ByteArray.ext (Array.toList_inj.1 e)
        rw [this, lex_self] at h1
        cases h1
      | false =>
        cases h2 : lex (keys b 0) (keys a 0) with
        | true =>
          simp only [Bool.not_true, Bool.and_false]
          refine beq_eq_false_iff_ne.2 fun e => ?_
          have : a = b := by rw [Lib.toList_data, Lib.toList_data] at e; exact ByteArray.ext (Array.toList_inj.1 e)
          rw [this, lex_self] at h2
          cases h2
        | false => rw [keys_inj a b (lex_total _ _ h1 h2)]; simp
    rw [hsame]
    cases h1 : lex (keys a 0) (keys b 0) with
    | true =>
      rw [if_pos rfl, lex_asym _ _ h1, if_neg (by simp), if_neg (by simp)]
      cases h2 : lex (keys b 0) (keys c 0) with
      | true => rw [if_pos rfl, lex_trans _ _ _ h1 h2]
      | false => rw [if_neg (by simp)]
    | false =>
      rw [if_neg (by simp)]
      cases h2 : lex (keys b 0) (keys a 0) <;> simp
  unfold cognatelaw01_RunesRows.f
  rw [hk]
  by_cases h1 : (a.size : Int) > 5000
  · rw [if_pos h1, skip]
  · rw [if_neg h1]
    by_cases h2 : (b.size : Int) > 5000
    · rw [if_pos h2, skip]
    · rw [if_neg h2]
      by_cases h3 : (c.size : Int) > 5000
      · rw [decide_eq_true h3, skip]
      · rw [decide_eq_false h3, main]
end Go.Proofs.YtglaagoblcpggaaDoor.R
