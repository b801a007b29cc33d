/- Plain laws of lists: totals, joining and splitting at 10. No program here. -/
set_option linter.unusedVariables false
set_option linter.unusedSimpArgs false
namespace Go.Proofs.Ytdfibmbedjpcgaa.Ls

def tot : List (List Int) → Nat
  | [] => 0
  | x :: r => x.length + tot r
theorem tot_append (a b : List (List Int)) : tot (a ++ b) = tot a + tot b := by
  induction a with
  | nil => simp [tot]
  | cons x r ih => simp [tot, ih]; omega
theorem tot_take (xss : List (List Int)) (k : Nat) : tot (xss.take k) ≤ tot xss := by
  have := tot_append (xss.take k) (xss.drop k)
  rw [List.take_append_drop] at this
  omega
theorem take_snoc {α : Type} {l : List α} {k : Nat} {x : α} (h : l[k]? = some x) : l.take (k + 1) = l.take k ++ [x] := by
  rw [List.take_add_one, h]; rfl
theorem tot_snoc {xss : List (List Int)} {k : Nat} {x : List Int} (h : xss[k]? = some x) : tot (xss.take (k + 1)) = tot (xss.take k) + x.length := by
  rw [take_snoc h, tot_append]; simp [tot]
def runes (xss : List (List Int)) : Nat := (xss.length - 1) + tot xss
/-- Lines joined by line ends. -/
def joinL : List (List Int) → List Int
  | [] => []
  | [x] => x
  | x :: y :: r => x ++ 10 :: joinL (y :: r)
theorem joinL_snoc : ∀ (xss : List (List Int)) (x : List Int), xss ≠ [] → joinL (xss ++ [x]) = joinL xss ++ 10 :: x
  | [], _, h => (h rfl).elim
  | [a], x, _ => by simp [joinL]
  | a :: b :: r, x, _ => by
    have ih := joinL_snoc (b :: r) x (by simp)
    simp only [List.cons_append, joinL] at ih ⊢
    rw [ih]; simp
theorem joinL_length (xss : List (List Int)) : (joinL xss).length = runes xss := by
  induction xss with
  | nil => rfl
  | cons x r ih =>
    cases r with
    | nil => simp [joinL, runes, tot]
    | cons y r => simp only [joinL, runes, tot, List.length_append, List.length_cons] at ih ⊢; omega
theorem joinL_take {xss : List (List Int)} {k : Nat} {x : List Int} (h : xss[k]? = some x) (h0 : 0 < k) : joinL (xss.take (k + 1)) = joinL (xss.take k) ++ 10 :: x := by
  rw [take_snoc h, joinL_snoc]
  intro e
  have h1 := congrArg List.length e
  have h2 : k < xss.length := (List.getElem?_eq_some_iff.1 h).1
  rw [List.length_take, List.length_nil] at h1
  omega
theorem joinL_take0 {xss : List (List Int)} {x : List Int} (h : xss[0]? = some x) : joinL (xss.take 1) = x := by
  rw [take_snoc h]; rfl
/-- A row split at line ends. -/
def splitL : List Int → List (List Int)
  | [] => [[]]
  | c :: r => if c = 10 then [] :: splitL r else match splitL r with
    | [] => [[c]]
    | x :: s => (c :: x) :: s
theorem splitL_ne (l : List Int) : splitL l ≠ [] := by
  cases l with
  | nil => simp [splitL]
  | cons c r => simp only [splitL]; split <;> (try split) <;> simp
def noNl (xs : List Int) : Bool := xs.all fun c => !decide (c = 10)
def plainL (xss : List (List Int)) : Bool := xss.all noNl

theorem splitL_nl (x : List Int) : splitL (x ++ [10]) = splitL x ++ [[]] := by
  induction x with
  | nil => simp [splitL]
  | cons c r ih =>
    simp only [List.cons_append, splitL]
    by_cases h : c = 10
    · simp [h, ih]
    · simp only [h, if_false, ih]
      cases hs : splitL r with
      | nil => exact (splitL_ne r hs).elim
      | cons a s => simp
theorem splitL_snoc {x : List Int} {a : List (List Int)} {l : List Int} (h : splitL x = a ++ [l]) {c : Int} (hc : c ≠ 10) : splitL (x ++ [c]) = a ++ [l ++ [c]] := by
  induction x generalizing a l with
  | nil =>
    simp [splitL] at h
    cases a with
    | nil => simp at h; subst h; simp [splitL, hc]
    | cons b a =>
      have := congrArg List.length h
      simp at this
  | cons d r ih =>
    simp only [List.cons_append, splitL] at h ⊢
    by_cases hd : d = 10
    · simp only [hd, if_true] at h ⊢
      cases a with
      | nil =>
        simp at h
        exact (splitL_ne r h.2).elim
      | cons b a =>
        simp only [List.cons_append, List.cons.injEq] at h
        rw [ih h.2, ← h.1]; rfl
    · simp only [hd, if_false] at h ⊢
      cases hs : splitL r with
      | nil => exact (splitL_ne r hs).elim
      | cons e s =>
        rw [hs] at h
        simp only at h
        cases a with
        | nil =>
          simp at h
          obtain ⟨h1, h2⟩ := h
          subst h2
          rw [ih (a := []) (l := e) (by simpa using hs)]
          simp [← h1]
        | cons b a =>
          simp only [List.cons_append, List.cons.injEq] at h
          obtain ⟨h1, h2⟩ := h
          rw [ih (a := e :: a) (l := l) (by rw [hs, h2]; rfl)]
          simp [← h1]
/-- The lengths of a row's lines. -/
def lens (x : List Int) : List Int := (splitL x).map fun l => (l.length : Int)
theorem lens_nl (x : List Int) : lens (x ++ [10]) = lens x ++ [0] := by simp [lens, splitL_nl]
theorem lens_snoc {x : List Int} {a : List Int} {n : Int} (h : lens x = a ++ [n]) {c : Int} (hc : c ≠ 10) : lens (x ++ [c]) = a ++ [n + 1] := by
  unfold lens at *
  have hne := splitL_ne x
  obtain ⟨b, l, hb⟩ : ∃ b l, splitL x = b ++ [l] := ⟨_, _, (List.dropLast_concat_getLast hne).symm⟩
  rw [splitL_snoc hb hc]
  rw [hb] at h
  simp only [List.map_append, List.map_cons, List.map_nil] at h ⊢
  have h2 := List.append_inj' h (by simp)
  rw [h2.1]
  have h3 : (l.length : Int) = n := by simpa using h2.2
  simp; omega
theorem lens_ne (x : List Int) : lens x ≠ [] := by simp [lens, splitL_ne]
theorem lens_split (x : List Int) : ∃ a n, lens x = a ++ [n] := ⟨_, _, (List.dropLast_concat_getLast (lens_ne x)).symm⟩
theorem splitL_length (x : List Int) : (splitL x).length ≤ x.length + 1 := by
  induction x with
  | nil => simp [splitL]
  | cons c r ih =>
    simp only [splitL]
    split
    · simp; omega
    · split <;> simp_all; omega
theorem lens_length (x : List Int) : (lens x).length ≤ x.length + 1 := by simpa [lens] using splitL_length x
theorem splitL_mem {x : List Int} : ∀ l ∈ splitL x, l.length ≤ x.length := by
  induction x with
  | nil => intro l h; simp [splitL] at h; simp [h]
  | cons c r ih =>
    intro l h
    simp only [splitL] at h
    split at h
    · rcases List.mem_cons.1 h with h | h
      · simp [h]
      · have := ih l h; simp; omega
    · split at h
      · simp at h; simp [h]
      · rename_i a s hs
        rcases List.mem_cons.1 h with h | h
        · subst h
          have := ih a (by rw [hs]; simp)
          simp; omega
        · have := ih l (by rw [hs]; simp [h])
          simp; omega
theorem lens_mem {x : List Int} : ∀ n ∈ lens x, 0 ≤ n ∧ n ≤ x.length := by
  intro n h
  obtain ⟨l, hl, rfl⟩ := List.mem_map.1 h
  have := splitL_mem l hl
  omega

/-- The sum of lengths, line ends counted. -/
def bsum : List Int → Int
  | [] => 0
  | x :: r => x + 1 + bsum r
theorem bsum_append (a b : List Int) : bsum (a ++ b) = bsum a + bsum b := by
  induction a with
  | nil => simp [bsum]
  | cons x r ih => simp [bsum, ih]; omega
theorem bsum_snoc (a : List Int) (x : Int) : bsum (a ++ [x]) = bsum a + (x + 1) := by rw [bsum_append]; simp [bsum]
theorem bsum_nonneg {a : List Int} (h : ∀ x ∈ a, 0 ≤ x) : 0 ≤ bsum a := by
  induction a with
  | nil => simp [bsum]
  | cons x r ih =>
    have h1 := h x (by simp)
    have h2 := ih (fun y hy => h y (by simp [hy]))
    simp only [bsum]; omega
theorem bsum_take_le {a : List Int} (h : ∀ x ∈ a, 0 ≤ x) (k : Nat) : 0 ≤ bsum (a.take k) ∧ bsum (a.take k) ≤ bsum a := by
  have h1 := bsum_append (a.take k) (a.drop k)
  rw [List.take_append_drop] at h1
  have h2 := bsum_nonneg (a := a.drop k) (fun x hx => h x (List.mem_of_mem_drop hx))
  have h3 := bsum_nonneg (a := a.take k) (fun x hx => h x (List.mem_of_mem_take hx))
  omega
theorem bsum_lens (x : List Int) : bsum (lens x) = x.length + 1 := by
  induction x with
  | nil => simp [lens, splitL, bsum]
  | cons c r ih =>
    unfold lens at ih ⊢
    simp only [splitL]
    by_cases h : c = 10
    · simp only [h, if_true, List.map_cons, bsum, ih, List.length_cons]; simp; omega
    · simp only [h, if_false]
      cases hs : splitL r with
      | nil => exact (splitL_ne r hs).elim
      | cons a s =>
        rw [hs] at ih
        simp only [List.map_cons, bsum, List.length_cons] at ih ⊢
        omega

/-- The line and the column of an offset. -/
def findS : List Int → Int → Int × Int
  | [], n => (0, n)
  | s :: r, n => if n ≤ s then (0, n) else ((findS r (n - (s + 1))).1 + 1, (findS r (n - (s + 1))).2)
theorem findS_skip : ∀ (b r : List Int) (n : Int), (∀ x ∈ b, 0 ≤ x) → bsum b ≤ n → findS (b ++ r) n = ((findS r (n - bsum b)).1 + b.length, (findS r (n - bsum b)).2)
  | [], r, n, _, _ => by simp [bsum]
  | s :: b, r, n, hp, hn => by
    have h1 := hp s (by simp)
    have h2 := bsum_nonneg (a := b) (fun x hx => hp x (by simp [hx]))
    simp only [bsum] at hn
    have ih := findS_skip b r (n - (s + 1)) (fun x hx => hp x (by simp [hx])) (by omega)
    simp only [List.cons_append, findS, bsum]
    rw [if_neg (by omega), ih, show n - (s + 1) - bsum b = n - (s + 1 + bsum b) by omega]
    simp; omega
theorem flat_take_succ {ss : List (List Int)} {q : Nat} {s : List Int} (h : ss[q]? = some s) : (ss.take (q + 1)).flatten = (ss.take q).flatten ++ s := by
  rw [take_snoc h]; simp
theorem flat_drop {ss : List (List Int)} {q : Nat} {s : List Int} (h : ss[q]? = some s) : (ss.drop q).flatten = s ++ (ss.drop (q + 1)).flatten := by
  have hlt : q < ss.length := (List.getElem?_eq_some_iff.1 h).1
  rw [List.drop_eq_getElem_cons hlt]
  have : ss[q] = s := (List.getElem?_eq_some_iff.1 h).2
  rw [this]; simp
theorem flat_take_le (ss : List (List Int)) (q : Nat) : (ss.take q).flatten.length ≤ ss.flatten.length := by
  have h := congrArg List.length (congrArg List.flatten (List.take_append_drop q ss))
  rw [List.flatten_append, List.length_append] at h
  omega
theorem flat_split (ss : List (List Int)) (q : Nat) : ss.flatten = (ss.take q).flatten ++ (ss.drop q).flatten := by
  rw [← List.flatten_append, List.take_append_drop]
theorem len_le_flat {ss : List (List Int)} (h : ∀ s ∈ ss, s ≠ []) : ss.length ≤ ss.flatten.length := by
  induction ss with
  | nil => simp
  | cons a r ih =>
    have h1 := ih (fun s hs => h s (by simp [hs]))
    have h2 := h a (by simp)
    have h3 : 0 < a.length := List.length_pos_iff.2 h2
    rw [List.flatten_cons, List.length_append, List.length_cons]; omega
end Go.Proofs.Ytdfibmbedjpcgaa.Ls
