/- Plain lists: lines in a row of runes, where they begin, what a change leaves. No program here. -/
import Derived.Test.YtdfibmbedjpcgaaLs
set_option linter.unusedVariables false
set_option linter.unusedSimpArgs false
namespace Go.Proofs.Ytdfibmbedjpcgaa
namespace Ls

theorem splitL_app (y r : List Int) : splitL (y ++ 10 :: r) = splitL y ++ splitL r := by
  induction y with
  | nil => simp [splitL]
  | cons c y ih =>
    simp only [List.cons_append, splitL]
    by_cases hc : c = 10
    · simp [hc, ih]
    · rw [if_neg hc, if_neg hc, ih]
      cases h : splitL y with
      | nil => exact absurd h (splitL_ne y)
      | cons a t => simp
theorem lens_app (y r : List Int) : lens (y ++ 10 :: r) = lens y ++ lens r := by simp [lens, splitL_app]
theorem splitL_plain {s : List Int} (h : noNl s = true) : splitL s = [s] := by
  induction s with
  | nil => rfl
  | cons c s ih =>
    simp only [noNl, List.all_cons, Bool.and_eq_true] at h
    have hc : ¬ c = 10 := by simpa using h.1
    simp only [splitL]
    rw [if_neg hc, ih h.2]
theorem lens_plain {s : List Int} (h : noNl s = true) : lens s = [(s.length : Int)] := by simp [lens, splitL_plain h]
/-- A row is a line, or a line, a line end, a row. -/
theorem lines_case (x : List Int) : noNl x = true ∨ ∃ s r, x = s ++ 10 :: r ∧ noNl s = true := by
  induction x with
  | nil => exact .inl rfl
  | cons c x ih =>
    by_cases hc : c = 10
    · exact .inr ⟨[], x, by simp [hc], rfl⟩
    · rcases ih with h | ⟨s, r, rfl, h⟩
      · refine .inl ?_
        simp only [noNl, List.all_cons, Bool.and_eq_true]
        exact ⟨by simpa using hc, h⟩
      · refine .inr ⟨c :: s, r, rfl, ?_⟩
        simp only [noNl, List.all_cons, Bool.and_eq_true]
        exact ⟨by simpa using hc, h⟩
/-- Where line i begins. -/
def beg (x : List Int) (i : Nat) : Nat := (bsum ((lens x).take i)).toNat
def siz (x : List Int) (i : Nat) : Nat := ((lens x).getD i 0).toNat
theorem lens_nn (x : List Int) : ∀ n ∈ lens x, 0 ≤ n := fun n hn => (lens_mem n hn).1
theorem beg_int (x : List Int) (i : Nat) : (beg x i : Int) = bsum ((lens x).take i) := by
  have := (bsum_take_le (lens_nn x) i).1
  unfold beg; omega
theorem siz_int (x : List Int) (i : Nat) : (siz x i : Int) = (lens x).getD i 0 := by
  unfold siz
  rw [List.getD_eq_getElem?_getD]
  cases h : (lens x)[i]? with
  | none => rfl
  | some v => have := lens_nn x v (List.mem_of_getElem? h); simp; omega
theorem beg_zero (x : List Int) : beg x 0 = 0 := by simp [beg, bsum]
theorem beg_succ {s r : List Int} (h : noNl s = true) (i : Nat) : beg (s ++ 10 :: r) (i + 1) = s.length + 1 + beg r i := by
  have h1 := beg_int (s ++ 10 :: r) (i + 1)
  have h2 := beg_int r i
  rw [lens_app, lens_plain h] at h1
  simp only [List.cons_append, List.nil_append, List.take_succ_cons, bsum] at h1
  omega
theorem siz_zero {s r : List Int} (h : noNl s = true) : siz (s ++ 10 :: r) 0 = s.length := by simp [siz, lens_app, lens_plain h]
theorem siz_zero' {s : List Int} (h : noNl s = true) : siz s 0 = s.length := by simp [siz, lens_plain h]
theorem siz_succ {s r : List Int} (h : noNl s = true) (i : Nat) : siz (s ++ 10 :: r) (i + 1) = siz r i := by simp [siz, lens_app, lens_plain h]
theorem beg_snoc {x : List Int} {i : Nat} (h : i < (lens x).length) : beg x (i + 1) = beg x i + siz x i + 1 := by
  have h1 := beg_int x (i + 1)
  have h2 := beg_int x i
  have h3 := siz_int x i
  rw [take_snoc (List.getElem?_eq_getElem h), bsum_snoc] at h1
  rw [List.getD_eq_getElem?_getD, List.getElem?_eq_getElem h] at h3
  simp only [Option.getD_some] at h3
  omega
theorem beg_all (x : List Int) : beg x (lens x).length = x.length + 1 := by
  have h1 := beg_int x (lens x).length
  rw [List.take_length, bsum_lens] at h1
  omega
theorem beg_mono (x : List Int) {i j : Nat} (h : i ≤ j) : beg x i ≤ beg x j := by
  have h1 := beg_int x i
  have h2 := beg_int x j
  have h3 : (lens x).take j = (lens x).take i ++ ((lens x).drop i).take (j - i) := by rw [← List.take_add]; congr 1; omega
  rw [h3, bsum_append] at h2
  have := bsum_nonneg (a := ((lens x).drop i).take (j - i)) (fun n hn => lens_nn x n (List.mem_of_mem_drop (List.mem_of_mem_take hn)))
  omega
theorem beg_lt (x : List Int) {i j : Nat} (h : i < j) (hj : i < (lens x).length) : beg x i + siz x i < beg x j := by
  have := beg_mono x (show i + 1 ≤ j by omega)
  rw [beg_snoc hj] at this
  omega
theorem siz_le {x : List Int} {i : Nat} (h : i < (lens x).length) : beg x i + siz x i ≤ x.length := by
  have := beg_lt x h h
  rw [beg_all] at this
  omega
theorem splitL_head : ∀ (f : Nat) (x y : List Int), f < (lens x).length → splitL (x.take (beg x f) ++ y) = (splitL x).take f ++ splitL y
  | 0, x, y, h => by simp [beg_zero]
  | f + 1, x, y, h => by
    rcases lines_case x with hx | ⟨s, r, rfl, hs⟩
    · rw [lens_plain hx] at h; simp at h
    · have hr : f < (lens r).length := by
        rw [lens_app, lens_plain hs] at h; simpa using h
      rw [beg_succ hs, splitL_app, splitL_plain hs, List.take_append, List.take_of_length_le (by omega), show s.length + 1 + beg r f - s.length = beg r f + 1 by omega, List.take_succ_cons, List.append_assoc, List.cons_append, splitL_app, splitL_plain hs, splitL_head f r y hr]
      simp
theorem lens_head {x y : List Int} {f : Nat} (h : f < (lens x).length) : lens (x.take (beg x f) ++ y) = (lens x).take f ++ lens y := by
  unfold lens
  rw [splitL_head f x y h]
  simp
theorem splitL_tail : ∀ (la : Nat) (x y : List Int), la < (lens x).length → splitL (y ++ x.drop (beg x la + siz x la)) = splitL y ++ (splitL x).drop (la + 1)
  | 0, x, y, h => by
    rw [beg_zero, Nat.zero_add]
    rcases lines_case x with hx | ⟨s, r, rfl, hs⟩
    · rw [siz_zero' hx, splitL_plain hx]; simp
    · rw [siz_zero hs, splitL_app s, splitL_plain hs, List.drop_left, splitL_app]; simp
  | la + 1, x, y, h => by
    rcases lines_case x with hx | ⟨s, r, rfl, hs⟩
    · rw [lens_plain hx] at h; simp at h
    · have hr : la < (lens r).length := by
        rw [lens_app, lens_plain hs] at h; simpa using h
      rw [beg_succ hs, siz_succ hs, splitL_app s, splitL_plain hs, List.drop_append, List.drop_of_length_le (by omega), List.nil_append, show s.length + 1 + beg r la + siz r la - s.length = (beg r la + siz r la) + 1 by omega, List.drop_succ_cons, splitL_tail la r y hr]
      simp
theorem lens_tail {x y : List Int} {la : Nat} (h : la < (lens x).length) : lens (y ++ x.drop (beg x la + siz x la)) = lens y ++ (lens x).drop (la + 1) := by
  unfold lens
  rw [splitL_tail la x y h]
  simp
/-- A line. -/
theorem splitL_line : ∀ (i : Nat) (x : List Int), i < (lens x).length → (splitL x)[i]? = some ((x.drop (beg x i)).take (siz x i))
  | 0, x, h => by
    rw [beg_zero, List.drop_zero]
    rcases lines_case x with hx | ⟨s, r, rfl, hs⟩
    · rw [siz_zero' hx, splitL_plain hx]; simp
    · rw [siz_zero hs, splitL_app s, splitL_plain hs]; simp
  | i + 1, x, h => by
    rcases lines_case x with hx | ⟨s, r, rfl, hs⟩
    · rw [lens_plain hx] at h; simp at h
    · have hr : i < (lens r).length := by
        rw [lens_app, lens_plain hs] at h; simpa using h
      rw [beg_succ hs, siz_succ hs, splitL_app s, splitL_plain hs, List.drop_append, List.drop_of_length_le (by omega), List.nil_append, show s.length + 1 + beg r i - s.length = beg r i + 1 by omega, List.drop_succ_cons]
      simpa using splitL_line i r hr
/-- What is found. -/
theorem findS_at : ∀ (ls : List Int) (i : Nat) (c : Int), (∀ x ∈ ls, 0 ≤ x) → i < ls.length → 0 ≤ c → c ≤ ls.getD i 0 → findS ls (bsum (ls.take i) + c) = ((i : Int), c)
  | [], i, c, _, h, _, _ => by simp at h
  | s :: r, 0, c, hp, h, h0, h1 => by
    simp at h1
    simp only [List.take_zero, bsum, findS, Int.zero_add]
    rw [if_pos h1]; rfl
  | s :: r, i + 1, c, hp, h, h0, h1 => by
    have hs := hp s (by simp)
    have hr : ∀ x ∈ r, 0 ≤ x := fun x hx => hp x (by simp [hx])
    have hb := (bsum_take_le hr i).1
    have ih := findS_at r i c hr (by simpa using h) h0 (by simpa using h1)
    simp only [List.take_succ_cons, bsum, findS]
    rw [if_neg (by omega), show s + 1 + bsum (r.take i) + c - (s + 1) = bsum (r.take i) + c by omega, ih]
    simp
theorem find_lens {x : List Int} {i c : Nat} (hi : i < (lens x).length) (hc : c ≤ siz x i) : findS (lens x) ((beg x i + c : Nat) : Int) = ((i : Int), (c : Int)) := by
  have h1 := beg_int x i
  have h2 := siz_int x i
  rw [show ((beg x i + c : Nat) : Int) = bsum ((lens x).take i) + (c : Int) by omega]
  exact findS_at _ i c (lens_nn x) hi (by omega) (by omega)
/-- Every offset is in a line. -/
theorem in_line (x : List Int) {n : Nat} (h : n ≤ x.length) : ∃ i c, i < (lens x).length ∧ c ≤ siz x i ∧ n = beg x i + c := by
  have key : ∀ j, j ≤ (lens x).length → n < beg x j → ∃ i c, i < (lens x).length ∧ c ≤ siz x i ∧ n = beg x i + c := by
    intro j
    induction j with
    | zero => intro _ h; rw [beg_zero] at h; omega
    | succ j ih =>
      intro hj hn
      rcases Nat.lt_or_ge n (beg x j) with h1 | h1
      · exact ih (by omega) h1
      · rw [beg_snoc (by omega)] at hn
        exact ⟨j, n - beg x j, by omega, by omega, by omega⟩
  exact key _ (Nat.le_refl _) (by rw [beg_all]; omega)
/-- A change in a row: its lines. -/
theorem lens_change {x l : List Int} {a n i j c d : Nat} (hi : i < (lens x).length) (hj : j < (lens x).length) (hc : c ≤ siz x i) (hd : d ≤ siz x j) (ha : a = beg x i + c) (hb : a + n = beg x j + d) :
    let x' := x.take a ++ l ++ x.drop (a + n)
    i ≤ j ∧ lens x' = (lens x).take i ++ lens ((x'.drop (beg x i)).take (beg x j + siz x j - beg x i + l.length - n)) ++ (lens x).drop (j + 1) ∧ beg x i + (beg x j + siz x j - beg x i + l.length - n) ≤ x'.length ∧ n ≤ beg x j + siz x j - beg x i + l.length := by
  intro x'
  have hij : i ≤ j := by
    rcases Nat.lt_or_ge j i with h | h
    · have := beg_lt x h hj; omega
    · exact h
  have hs := siz_le hj
  have hbm := beg_mono x hij
  have hle : beg x i ≤ a := by omega
  have e1 : x' = x.take (beg x i) ++ (((x.take a).drop (beg x i) ++ l ++ (x.drop (a + n)).take (siz x j - d)) ++ x.drop (beg x j + siz x j)) := by
    show x.take a ++ l ++ x.drop (a + n) = _
    have h1 : x.take a = x.take (beg x i) ++ (x.take a).drop (beg x i) := by
      conv => lhs; rw [← List.take_append_drop (beg x i) (x.take a)]
      rw [List.take_take, Nat.min_eq_left hle]
    have h2 : x.drop (a + n) = (x.drop (a + n)).take (siz x j - d) ++ x.drop (beg x j + siz x j) := by
      conv => lhs; rw [← List.take_append_drop (siz x j - d) (x.drop (a + n))]
      rw [List.drop_drop, show a + n + (siz x j - d) = beg x j + siz x j by omega]
    conv => lhs; rw [h1, h2]
    simp [List.append_assoc]
  have hmid : ((x.take a).drop (beg x i) ++ l ++ (x.drop (a + n)).take (siz x j - d)).length = beg x j + siz x j - beg x i + l.length - n := by
    simp; omega
  have htl : (x.take (beg x i)).length = beg x i := by rw [List.length_take]; omega
  have hrow : (x'.drop (beg x i)).take (beg x j + siz x j - beg x i + l.length - n) = (x.take a).drop (beg x i) ++ l ++ (x.drop (a + n)).take (siz x j - d) := by
    rw [e1, List.drop_append, List.drop_of_length_le (by omega), List.nil_append, htl, Nat.sub_self, List.drop_zero, ← hmid, List.take_left]
  refine ⟨hij, ?_, ?_, by omega⟩
  · rw [hrow]
    conv => lhs; rw [e1]
    rw [lens_head hi, lens_tail hj]
    simp [List.append_assoc]
  · rw [e1, List.length_append, htl, List.length_append, hmid]
    omega
theorem nl_at : ∀ (i : Nat) (x : List Int), i + 1 < (lens x).length → x[beg x i + siz x i]? = some 10
  | 0, x, h => by
    rw [beg_zero, Nat.zero_add]
    rcases lines_case x with hx | ⟨s, r, rfl, hs⟩
    · rw [lens_plain hx] at h; simp at h
    · rw [siz_zero hs]; simp
  | i + 1, x, h => by
    rcases lines_case x with hx | ⟨s, r, rfl, hs⟩
    · rw [lens_plain hx] at h; simp at h
    · have hr : i + 1 < (lens r).length := by
        rw [lens_app, lens_plain hs] at h; simpa using h
      rw [beg_succ hs, siz_succ hs, List.getElem?_append_right (by omega), show s.length + 1 + beg r i + siz r i - s.length = (beg r i + siz r i) + 1 by omega, List.getElem?_cons_succ]
      exact nl_at i r hr
theorem noNl_get {s : List Int} (h : noNl s = true) {j : Nat} {v : Int} (hj : s[j]? = some v) : v ≠ 10 := by
  have := List.all_eq_true.1 h v (List.mem_of_getElem? hj)
  simpa using this
theorem not_nl : ∀ (i : Nat) (x : List Int) (j : Nat) (v : Int), i < (lens x).length → beg x i ≤ j → j < beg x i + siz x i → x[j]? = some v → v ≠ 10
  | 0, x, j, v, h, h0, h1, hv => by
    rw [beg_zero] at h1
    rcases lines_case x with hx | ⟨s, r, rfl, hs⟩
    · exact noNl_get hx hv
    · rw [siz_zero hs] at h1
      rw [List.getElem?_append_left (by omega)] at hv
      exact noNl_get hs hv
  | i + 1, x, j, v, h, h0, h1, hv => by
    rcases lines_case x with hx | ⟨s, r, rfl, hs⟩
    · rw [lens_plain hx] at h; simp at h
    · have hr : i < (lens r).length := by
        rw [lens_app, lens_plain hs] at h; simpa using h
      rw [beg_succ hs] at h0 h1
      rw [siz_succ hs] at h1
      rw [List.getElem?_append_right (by omega), show j - s.length = (j - s.length - 1) + 1 by omega, List.getElem?_cons_succ] at hv
      exact not_nl i r (j - s.length - 1) v hr (by omega) (by omega) hv
theorem lens_splitL (x : List Int) : (lens x).length = (splitL x).length := by simp [lens]
end Ls
end Go.Proofs.Ytdfibmbedjpcgaa
