/- Plain laws: a region of lines, as a region of runes. -/
import Derived.Test.YtdfibmbedjpcgaaO6
import Derived.Test.YtdfibmbedjpcgaaV3
set_option linter.unusedVariables false
set_option linter.unusedSimpArgs false
namespace Go.Proofs.Ytdfibmbedjpcgaa
open Go Go.RowKit Eng Ls

def preJ (A : List (List Int)) : List Int := (A.map (fun r => r ++ [10])).flatten
def posJ (A : List (List Int)) : List Int := (A.map (fun r => 10 :: r)).flatten
theorem preJ_app (A B : List (List Int)) : preJ (A ++ B) = preJ A ++ preJ B := by simp [preJ]
theorem preJ_one (r : List Int) : preJ [r] = r ++ [10] := by simp [preJ]
theorem preJ_nil : preJ [] = [] := rfl
theorem preJ_cons (r : List Int) (A : List (List Int)) : preJ (r :: A) = r ++ 10 :: preJ A := by simp [preJ]
theorem posJ_cons (r : List Int) (A : List (List Int)) : posJ (r :: A) = 10 :: (r ++ posJ A) := by simp [posJ]
theorem joinL_first : ∀ (Q : List (List Int)) (r : List Int), joinL (r :: Q) = r ++ posJ Q
  | [], r => by simp [joinL, posJ]
  | s :: Q, r => by
    rw [joinL, joinL_first Q s, posJ_cons]
theorem joinL_mid : ∀ (A Q : List (List Int)) (r : List Int), joinL (A ++ r :: Q) = preJ A ++ r ++ posJ Q
  | [], Q, r => by rw [List.nil_append, joinL_first, preJ_nil, List.nil_append]
  | s :: A, Q, r => by
    have ih := joinL_mid A Q r
    rw [preJ_cons, List.cons_append]
    cases h : A ++ r :: Q with
    | nil => simp at h
    | cons y T =>
      rw [joinL, ← h, ih]
      simp
theorem joinL_end (A : List (List Int)) (r : List Int) : joinL (A ++ [r]) = preJ A ++ r := by
  rw [joinL_mid]; simp [posJ]
theorem split_at {L : List (List Int)} {i : Nat} (h : i < L.length) : L = L.take i ++ rowN L i :: L.drop (i + 1) := by
  have := rowN_get h
  rw [List.getElem?_eq_getElem h] at this
  have e := Option.some.inj this
  rw [← e, ← List.drop_eq_getElem_cons h, List.take_append_drop]
theorem joinL_at {L : List (List Int)} {i : Nat} (h : i < L.length) : joinL L = preJ (L.take i) ++ rowN L i ++ posJ (L.drop (i + 1)) := by
  conv => lhs; rw [split_at h]
  exact joinL_mid _ _ _
theorem beg_pre : ∀ (L : List (List Int)) (i : Nat), i < L.length → plainL L = true → beg (joinL L) i = (preJ (L.take i)).length
  | L, 0, _, _ => by rw [beg_zero]; rfl
  | [], i + 1, h, _ => by simp at h
  | [r], i + 1, h, _ => by simp at h
  | r :: s :: L, i + 1, h, hp => by
    have hp' : noNl r = true ∧ plainL (s :: L) = true := by simpa [plainL] using hp
    have ih := beg_pre (s :: L) i (by simpa using h) hp'.2
    rw [joinL, beg_succ hp'.1, ih, List.take_succ_cons, preJ_cons, List.length_append, List.length_cons]
    omega
/-- The end of what is meant in a line. -/
def endT (L : List (List Int)) (b : Nat × Nat) : Nat := min (rowN L b.1).length (b.2 + 1)
theorem colT_last (L : List (List Int)) (a b : Nat × Nat) : colT 0 a b (rowN L b.1).length b.1 = endT L b := by
  unfold colT endT; rw [if_neg (by decide), if_pos ⟨rfl, rfl⟩]
theorem colT_mid {a b : Nat × Nat} {n i : Nat} (h : i < b.1) : colT 0 a b n i = n := by
  unfold colT; rw [if_neg (by decide), if_neg (by omega)]; exact Nat.min_self _
theorem colF_first {a b : Nat × Nat} {n : Nat} (h : a.2 ≤ colT 0 a b n a.1) : colF 0 a b n a.1 = a.2 := by
  unfold colF; rw [if_neg (by decide), if_pos ⟨rfl, rfl⟩]; omega
theorem colF_rest {a b : Nat × Nat} {n i : Nat} (h : a.1 < i) : colF 0 a b n i = 0 := by
  unfold colF; rw [if_neg (by decide), if_neg (by omega)]; exact Nat.min_zero _
theorem take_pre {L : List (List Int)} {i : Nat} (h : i < L.length) : preJ (L.take (i + 1)) = preJ (L.take i) ++ (rowN L i ++ [10]) := by
  rw [take_snoc (rowN_get h), preJ_app, preJ_one]
theorem drop_app_le {A B : List Int} {n : Nat} (h : n ≤ A.length) : (A ++ B).drop n = A.drop n ++ B := List.drop_append_of_le_length h
theorem drop_app_add (A B : List Int) (n : Nat) : (A ++ B).drop (A.length + n) = B.drop n := by
  rw [List.drop_append, List.drop_eq_nil_of_le (by omega), List.nil_append]; congr 1; omega
theorem take_app_add (A B : List Int) (n : Nat) : (A ++ B).take (A.length + n) = A ++ B.take n := by
  rw [List.take_append, List.take_of_length_le (by omega)]; congr 2; omega
/-- What is taken of the lines ahead of the last, with their ends. -/
theorem pre_in {L : List (List Int)} {a b : Nat × Nat} (hb : b.1 < L.length) (ha : a.2 ≤ (rowN L a.1).length) : ∀ k, a.1 + k ≤ b.1 →
    preJ (gathS cutIn L 0 a b k) = (preJ (L.take (a.1 + k))).drop ((preJ (L.take a.1)).length + a.2) ∧ (0 < k → (preJ (L.take a.1)).length + a.2 ≤ (preJ (L.take (a.1 + k))).length)
  | 0, _ => by
    refine ⟨?_, fun h => absurd h (by omega)⟩
    rw [Nat.add_zero, List.drop_eq_nil_of_le (by omega)]; rfl
  | k + 1, h => by
    obtain ⟨ih, ihl⟩ := pre_in hb ha k (by omega)
    have hT := colT_mid (a := a) (b := b) (n := (rowN L (a.1 + k)).length) (i := a.1 + k) (by omega)
    have hp := take_pre (L := L) (i := a.1 + k) (by omega)
    rw [gathS_succ, preJ_app, preJ_one, ih, show a.1 + (k + 1) = a.1 + k + 1 by omega, hp, hT]
    rcases Nat.eq_zero_or_pos k with rfl | hk
    · rw [Nat.add_zero] at hT hp ⊢
      rw [colF_first (by rw [hT]; exact ha), List.drop_eq_nil_of_le (by omega), drop_app_add]
      refine ⟨?_, fun _ => ?_⟩
      · unfold cutIn
        rw [List.nil_append, List.take_of_length_le (by rw [List.length_drop]; omega), drop_app_le ha]
      · rw [List.length_append, List.length_append]; omega
    · have := ihl hk
      rw [colF_rest (by omega), drop_app_le this]
      refine ⟨?_, fun _ => by rw [List.length_append]; omega⟩
      unfold cutIn
      rw [List.drop_zero, Nat.sub_zero, List.take_length]
/-- What is left of the lines ahead of the last. -/
theorem flat_out {L : List (List Int)} {a b : Nat × Nat} (hb : b.1 < L.length) (ha : a.2 ≤ (rowN L a.1).length) : ∀ k, a.1 + k ≤ b.1 →
    (gathS cutOut L 0 a b k).flatten = if k = 0 then [] else (rowN L a.1).take a.2
  | 0, _ => rfl
  | k + 1, h => by
    have ih := flat_out hb ha k (by omega)
    have hT := colT_mid (a := a) (b := b) (n := (rowN L (a.1 + k)).length) (i := a.1 + k) (by omega)
    rw [gathS_succ, List.flatten_append, ih, hT, show (if k + 1 = 0 then ([] : List Int) else (rowN L a.1).take a.2) = (rowN L a.1).take a.2 from if_neg (by omega)]
    rcases Nat.eq_zero_or_pos k with rfl | hk
    · rw [if_pos rfl]
      rw [Nat.add_zero] at hT ⊢
      rw [colF_first (by rw [hT]; exact ha)]
      unfold cutOut
      simp
    · rw [if_neg (by omega), colF_rest (by omega)]
      unfold cutOut
      simp
theorem col_end {L : List (List Int)} {a b : Nat × Nat} (h : a.1 = b.1 → a.2 ≤ b.2) (ha : a.2 ≤ (rowN L a.1).length) (he : a.1 = b.1) : colF 0 a b (rowN L b.1).length b.1 = a.2 := by
  have hT := colT_last L a b
  rw [← he] at hT ⊢
  refine colF_first ?_
  rw [hT]
  have := h he
  unfold endT
  rw [← he]
  omega
theorem flat_in {L : List (List Int)} {a b : Nat × Nat} (hab : a.1 ≤ b.1) (hb : b.1 < L.length) (ha : a.2 ≤ (rowN L a.1).length) (h : a.1 = b.1 → a.2 ≤ b.2) :
    joinL (gathS cutIn L 0 a b (b.1 + 1 - a.1)) = ((joinL L).drop ((preJ (L.take a.1)).length + a.2)).take ((preJ (L.take b.1)).length + endT L b - ((preJ (L.take a.1)).length + a.2)) := by
  obtain ⟨k, hk⟩ : ∃ k, b.1 = a.1 + k := ⟨b.1 - a.1, by omega⟩
  obtain ⟨hp, hpl⟩ := pre_in hb ha k (by omega)
  have hte : endT L b ≤ (rowN L b.1).length := by unfold endT; omega
  rw [show b.1 + 1 - a.1 = k + 1 by omega, gathS_succ, joinL_end, hp, ← List.drop_take, joinL_at hb, List.append_assoc, take_app_add, List.take_append_of_le_length hte, ← hk, colT_last]
  rcases Nat.eq_zero_or_pos k with rfl | hk0
  · have he : a.1 = b.1 := by omega
    rw [col_end h ha he, ← he, List.drop_eq_nil_of_le (by omega), List.nil_append, drop_app_add]
    unfold cutIn
    rw [List.drop_take]
  · have := hpl hk0
    rw [← hk] at this
    rw [colF_rest (by omega), drop_app_le this]
    unfold cutIn
    rw [List.drop_zero, Nat.sub_zero]
theorem flat_cut {L : List (List Int)} {a b : Nat × Nat} (hab : a.1 ≤ b.1) (hb : b.1 < L.length) (ha : a.2 ≤ (rowN L a.1).length) (h : a.1 = b.1 → a.2 ≤ b.2) :
    joinL (cutS L 0 a b).1 = (joinL L).take ((preJ (L.take a.1)).length + a.2) ++ (joinL L).drop ((preJ (L.take b.1)).length + endT L b) := by
  have hte : endT L b ≤ (rowN L b.1).length := by unfold endT; omega
  have hY : (gathS cutOut L 0 a b (b.1 + 1 - a.1)).flatten = (rowN L a.1).take a.2 ++ (rowN L b.1).drop (endT L b) := by
    obtain ⟨k, hk⟩ : ∃ k, b.1 = a.1 + k := ⟨b.1 - a.1, by omega⟩
    have hf := flat_out hb ha k (by omega)
    rw [show b.1 + 1 - a.1 = k + 1 by omega, gathS_succ, List.flatten_append, hf, ← hk, colT_last]
    rcases Nat.eq_zero_or_pos k with rfl | hk0
    · have he : a.1 = b.1 := by omega
      rw [col_end h ha he, if_pos rfl, he]
      unfold cutOut
      simp
    · rw [colF_rest (by omega), if_neg (by omega)]
      unfold cutOut
      simp
  have e1 : (joinL L).take ((preJ (L.take a.1)).length + a.2) = preJ (L.take a.1) ++ (rowN L a.1).take a.2 := by
    rw [joinL_at (L := L) (i := a.1) (by omega), List.append_assoc, take_app_add, List.take_append_of_le_length ha]
  have e2 : (joinL L).drop ((preJ (L.take b.1)).length + endT L b) = (rowN L b.1).drop (endT L b) ++ posJ (L.drop (b.1 + 1)) := by
    rw [joinL_at (L := L) (i := b.1) hb, List.append_assoc, drop_app_add, drop_app_le hte]
  have hc : (cutS L 0 a b).1 = L.take a.1 ++ [(gathS cutOut L 0 a b (b.1 + 1 - a.1)).flatten] ++ L.drop (b.1 + 1) := rfl
  rw [hc, hY, e1, e2, List.append_assoc, List.singleton_append, joinL_mid]
  simp [List.append_assoc]
end Go.Proofs.Ytdfibmbedjpcgaa
