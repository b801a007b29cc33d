/- Plain lists: a row of runes changed, its places and lines. -/
import Derived.Test.YtdfibmbedjpcgaaU1
set_option linter.unusedVariables false
set_option linter.unusedSimpArgs false
namespace Go.Proofs.Ytdfibmbedjpcgaa
open Go Go.RowKit Eng Ls
namespace Ls
theorem siz0_ge {y : List Int} {c : Nat} (h : ∀ j v, j < c → y[j]? = some v → v ≠ 10) (hc : c ≤ y.length) : c ≤ siz y 0 := by
  rcases lines_case y with hy | ⟨s, r, rfl, hs⟩
  · rw [siz_zero' hy]; exact hc
  · rw [siz_zero hs]
    rcases Nat.lt_or_ge s.length c with hl | hl
    · exact absurd rfl (h s.length 10 hl (by simp))
    · exact hl
/-- Two rows that begin alike have the same place there. -/
theorem place_prefix {x x' : List Int} {n : Nat} (hn : n ≤ x.length) (hn' : n ≤ x'.length) (h : x.take n = x'.take n) :
    ∃ i c, i < (lens x).length ∧ c ≤ siz x i ∧ n = beg x i + c ∧ i < (lens x').length ∧ c ≤ siz x' i ∧ n = beg x' i + c := by
  obtain ⟨i, c, hi, hc, hnn⟩ := in_line x hn
  have hget : ∀ j, j < n → x[j]? = x'[j]? := fun j hj => by
    have := congrArg (·[j]?) h
    simpa [List.getElem?_take, hj] using this
  have hp : x.take (beg x i) = x'.take (beg x i) := by
    have := congrArg (List.take (beg x i)) h
    simpa [List.take_take, Nat.min_eq_left (show beg x i ≤ n by omega)] using this
  have he : x' = x.take (beg x i) ++ x'.drop (beg x i) := by rw [hp, List.take_append_drop]
  generalize hy : x'.drop (beg x i) = y at he
  have hyl : y.length = x'.length - beg x i := by rw [← hy, List.length_drop]
  have hl : lens x' = (lens x).take i ++ lens y := by rw [he]; exact lens_head hi
  have htl : ((lens x).take i).length = i := by rw [List.length_take]; omega
  have hb : beg x' i = beg x i := by
    unfold beg
    rw [hl, List.take_append_of_le_length (by omega), List.take_take, Nat.min_self]
  have hs : siz x' i = siz y 0 := by
    unfold siz
    rw [hl, List.getD_eq_getElem?_getD, List.getElem?_append_right (by omega), htl, Nat.sub_self, ← List.getD_eq_getElem?_getD]
  refine ⟨i, c, hi, hc, hnn, ?_, ?_, by omega⟩
  · have := lens_pos' y
    rw [hl, List.length_append, htl]
    omega
  · rw [hs]
    refine siz0_ge (fun j v hj hv => ?_) (by omega)
    rw [← hy, List.getElem?_drop, ← hget _ (by omega)] at hv
    exact not_nl i x (beg x i + j) v hi (by omega) (by omega) hv
where
  lens_pos' (y : List Int) : 0 < (lens y).length := by
    rcases Nat.eq_zero_or_pos (lens y).length with h | h
    · exact absurd (List.eq_nil_of_length_eq_zero h) (lens_ne y)
    · exact h
theorem joinL_cons {a : List Int} {l : List (List Int)} (h : l ≠ []) : joinL (a :: l) = a ++ 10 :: joinL l := by
  cases l with
  | nil => exact absurd rfl h
  | cons b r => rfl
/-- A row split is itself, joined. -/
theorem joinL_splitL : ∀ (x : List Int), joinL (splitL x) = x := by
  intro x
  induction hn : x.length using Nat.strongRecOn generalizing x with
  | _ n ih =>
    rcases lines_case x with hx | ⟨s, r, rfl, hs⟩
    · rw [splitL_plain hx]; rfl
    · rw [splitL_app, splitL_plain hs, List.singleton_append, joinL_cons (splitL_ne r), ih r.length (by simp at hn; omega) r rfl]
theorem splitL_plainL : ∀ (x : List Int), plainL (splitL x) = true := by
  intro x
  induction hn : x.length using Nat.strongRecOn generalizing x with
  | _ n ih =>
    rcases lines_case x with hx | ⟨s, r, rfl, hs⟩
    · rw [splitL_plain hx]; simp [plainL, hx]
    · rw [splitL_app, splitL_plain hs]
      have := ih r.length (by simp at hn; omega) r rfl
      simp only [plainL, List.singleton_append, List.all_cons, Bool.and_eq_true] at this ⊢
      exact ⟨hs, this⟩
theorem plainL_sub {xss yss : List (List Int)} (h : plainL xss = true) (hs : ∀ y ∈ yss, y ∈ xss) : plainL yss = true := by
  unfold plainL at h ⊢
  rw [List.all_eq_true] at h ⊢
  exact fun y hy => h y (hs y hy)
theorem tot_drop (xss : List (List Int)) (k : Nat) : tot (xss.drop k) ≤ tot xss := by
  have := tot_append (xss.take k) (xss.drop k)
  rw [List.take_append_drop] at this
  omega
theorem tot_split (x : List Int) : tot (splitL x) + (lens x).length = x.length + 1 := by
  have h1 := joinL_length (splitL x)
  rw [joinL_splitL] at h1
  have h2 := lens_splitL x
  have h3 : 0 < (splitL x).length := List.length_pos_iff.2 (splitL_ne x)
  unfold runes at h1
  omega
end Ls
theorem chg_len {x l : List Int} {a n : Nat} (h : a + n ≤ x.length) : (chg x l a n).length = x.length - n + l.length := by
  unfold chg
  simp only [List.length_append, List.length_take, List.length_drop]
  omega
theorem undo_back {x more : List Int} {n : Nat} (hn : n ≤ x.length) : chg (chg x more n 0) [] n more.length = x := by
  have ht : (x.take n).length = n := by rw [List.length_take]; omega
  unfold chg
  rw [List.append_nil, List.append_assoc, List.take_append_of_le_length (by omega), List.take_of_length_le (by omega), List.drop_append, List.drop_of_length_le (by omega), ht, List.nil_append, Nat.add_sub_cancel_left, List.drop_append, List.drop_of_length_le (by omega), Nat.sub_self, List.nil_append, List.drop_zero, Nat.add_zero, List.take_append_drop]
theorem undo_got {x more : List Int} {n : Nat} (hn : n ≤ x.length) : ((chg x more n 0).drop n).take more.length = more := by
  have ht : (x.take n).length = n := by rw [List.length_take]; omega
  unfold chg
  rw [List.append_assoc, List.drop_append, List.drop_of_length_le (by omega), ht, Nat.sub_self, List.drop_zero, List.nil_append, List.take_left']
  rfl
theorem chg_take {x l : List Int} {n m : Nat} (hn : n ≤ x.length) : x.take n = (chg x l n m).take n := by
  have ht : (x.take n).length = n := by rw [List.length_take]; omega
  unfold chg
  rw [List.append_assoc, List.take_append_of_le_length (by omega), List.take_take, Nat.min_self]
/-- Lines in the place of lines. -/
theorem splitL_swap {x : List Int} {ms : List (List Int)} {i n : Nat} (hn : 0 < n) (hi : i + n ≤ (lens x).length) (hne : ms ≠ []) (hp : plainL ms = true) :
    splitL (chg x (joinL ms) (beg x i) (siz x (i + n - 1) + beg x (i + n - 1) - beg x i)) = (splitL x).take i ++ ms ++ (splitL x).drop (i + n) := by
  have hm := beg_mono x (show i ≤ i + n - 1 by omega)
  have hs := siz_le (x := x) (i := i + n - 1) (by omega)
  unfold chg
  rw [List.append_assoc, splitL_head _ _ _ (by omega), show beg x i + (siz x (i + n - 1) + beg x (i + n - 1) - beg x i) = beg x (i + n - 1) + siz x (i + n - 1) by omega,
    splitL_tail _ _ _ (by omega), splitL_joinL ms hne hp, show i + n - 1 + 1 = i + n by omega, List.append_assoc]
theorem repS_in {x : List Int} {i n : Nat} {ms : List (List Int)} (hn : 0 < n) (hi : i + n ≤ (lens x).length) (hne : ms ≠ []) (hp : plainL ms = true) (hb : (joinL ms).length + x.length ≤ 65536) :
    ∃ x', repS x i n ms = (0, x') ∧ splitL x' = (splitL x).take i ++ ms ++ (splitL x).drop (i + n) ∧ x'.length ≤ (joinL ms).length + x.length := by
  have hm := beg_mono x (show i ≤ i + n - 1 by omega)
  have hs := siz_le (x := x) (i := i + n - 1) (by omega)
  refine ⟨_, ?_, splitL_swap hn hi hne hp, ?_⟩
  · unfold repS
    rw [if_neg (fun h => h ⟨by omega, by omega, by omega, by omega⟩), if_neg (by rw [hp]; decide), if_neg (fun h => hne h.2), if_neg (by omega), if_neg (by omega)]
    unfold repA repN
    rw [if_neg (fun h => hne h.1), if_neg (fun h => hne h.1)]
    simp only [Int.toNat_natCast, Nat.add_zero]
    unfold chgS
    rw [if_neg (by omega)]
  · rw [chg_len (by omega)]; omega
end Go.Proofs.Ytdfibmbedjpcgaa
