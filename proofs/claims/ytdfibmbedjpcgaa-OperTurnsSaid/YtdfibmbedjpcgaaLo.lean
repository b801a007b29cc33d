/- Plain lists: places, regions, what a region has. -/
import Derived.Test.YtdfibmbedjpcgaaLu
set_option linter.unusedVariables false
set_option linter.unusedSimpArgs false
namespace Go.Proofs.Ytdfibmbedjpcgaa
open Go Go.RowKit Eng Ls
namespace Ls
/-! ### Classes of runes -/
def wordS (r : Int) : Bool := decide (128 ≤ r) || decide (r = 95) || (decide (48 ≤ r) && decide (r ≤ 57)) || (decide (65 ≤ r) && decide (r ≤ 90)) || (decide (97 ≤ r) && decide (r ≤ 122))
def clsB (big : Bool) (r : Int) : Int := if r = 32 ∨ r = 9 then 0 else if big = true ∨ wordS r = true then 1 else 2
abbrev clsS (r : Int) : Int := clsB false r
def blk (r : Int) : Bool := decide (clsS r = 0)
/-- How many blanks it begins with. -/
def lead : List Int → Nat
  | [] => 0
  | c :: r => if blk c = true then lead r + 1 else 0
theorem lead_le : ∀ x : List Int, lead x ≤ x.length
  | [] => Nat.le_refl _
  | c :: r => by
    simp only [lead, List.length_cons]
    split
    · have := lead_le r; omega
    · omega
theorem lead_blk : ∀ (x : List Int) (j : Nat) (v : Int), j < lead x → x[j]? = some v → blk v = true
  | [], j, v, h, _ => by simp [lead] at h
  | c :: r, 0, v, h, hv => by
    simp only [lead] at h
    split at h
    · have : v = c := by simpa using hv.symm
      rw [this]; assumption
    · omega
  | c :: r, j + 1, v, h, hv => by
    simp only [lead] at h
    split at h
    · exact lead_blk r j v (by omega) (by simpa using hv)
    · omega
theorem lead_not : ∀ (x : List Int) (v : Int), x[lead x]? = some v → blk v = false
  | [], v, hv => by simp [lead] at hv
  | c :: r, v, hv => by
    simp only [lead] at hv
    split at hv
    · exact lead_not r v (by simpa using hv)
    · have : v = c := by simpa using hv.symm
      rw [this]; simpa using ‹¬ blk c = true›
theorem lead_eq {x : List Int} {k : Nat} (h : ∀ j v, j < k → x[j]? = some v → blk v = true) (h2 : ∀ v, x[k]? = some v → blk v = false) (hk : k ≤ x.length) : lead x = k := by
  rcases Nat.lt_trichotomy (lead x) k with hl | hl | hl
  · have hlt : lead x < x.length := by omega
    have h3 := lead_not x _ (List.getElem?_eq_getElem hlt)
    have h4 := h _ _ hl (List.getElem?_eq_getElem hlt)
    rw [h4] at h3; cases h3
  · exact hl
  · have hle := lead_le x
    have hlt : k < x.length := by omega
    have h3 := h2 _ (List.getElem?_eq_getElem hlt)
    have h4 := lead_blk x k _ hl (List.getElem?_eq_getElem hlt)
    rw [h4] at h3; cases h3
def firstS (x : List Int) : Nat := if lead x < x.length then lead x else x.length - 1
/-! ### Places -/
def clp (n : Nat) (c : Int) : Nat := min c.toNat (n - 1)
def rowN (xss : List (List Int)) (i : Nat) : List Int := xss.getD i []
def clipS (xss : List (List Int)) (l c : Int) : Nat × Nat := (clp xss.length l, clp (rowN xss (clp xss.length l)).length c)
theorem rowN_rw (xss : List (List Int)) (i : Nat) : rw_ xss (i : Int) = rowN xss i := rfl
theorem rowN_get {xss : List (List Int)} {i : Nat} (h : i < xss.length) : xss[i]? = some (rowN xss i) := by
  unfold rowN
  rw [List.getD_eq_getElem?_getD, List.getElem?_eq_getElem h]; rfl
theorem rowN_len {xss : List (List Int)} {i : Nat} (h : i < xss.length) : (rowN xss i).length ≤ tot xss := by
  have h1 := tot_snoc (rowN_get h)
  have h2 := tot_take xss (i + 1)
  omega
theorem clp_lt {n : Nat} {c : Int} (h : 0 < n) : clp n c < n := by unfold clp; omega
theorem clipS_lt {xss : List (List Int)} {l c : Int} (h : 0 < xss.length) : (clipS xss l c).1 < xss.length := clp_lt h
theorem clipS_col (xss : List (List Int)) (l c : Int) : (clipS xss l c).2 ≤ (rowN xss (clipS xss l c).1).length - 1 := by
  unfold clipS clp; dsimp only; omega
/-! ### Regions -/
def regE (xss : List (List Int)) (fl fc tl tc kd : Int) : Int :=
  if kd < 0 ∨ 2 < kd then 1
  else if xss.length = 0 ∨ ¬ (((clipS xss fl fc).1 : Int) = fl ∧ ((clipS xss fl fc).2 : Int) = fc) ∨ ¬ (((clipS xss tl tc).1 : Int) = tl ∧ ((clipS xss tl tc).2 : Int) = tc) then 2 else 0
def swp (fl fc tl tc : Int) : Prop := tl < fl ∨ (tl = fl ∧ tc < fc)
instance (fl fc tl tc : Int) : Decidable (swp fl fc tl tc) := by unfold swp; exact inferInstance
def regA (fl fc tl tc : Int) : Nat × Nat := if swp fl fc tl tc then (tl.toNat, tc.toNat) else (fl.toNat, fc.toNat)
def regB (fl fc tl tc : Int) : Nat × Nat := if swp fl fc tl tc then (fl.toNat, fc.toNat) else (tl.toNat, tc.toNat)
structure RegOk (xss : List (List Int)) (kd : Int) (a b : Nat × Nat) : Prop where
  kd : 0 ≤ kd ∧ kd ≤ 2
  le : a.1 ≤ b.1
  lt : b.1 < xss.length
  ca : a.2 ≤ (rowN xss a.1).length - 1
  cb : b.2 ≤ (rowN xss b.1).length - 1
  same : a.1 = b.1 → a.2 ≤ b.2
theorem regOk {xss : List (List Int)} {fl fc tl tc kd : Int} (h : regE xss fl fc tl tc kd = 0) :
    RegOk xss kd (regA fl fc tl tc) (regB fl fc tl tc) ∧ (if swp fl fc tl tc then fl = (regB fl fc tl tc).1 ∧ fc = (regB fl fc tl tc).2 ∧ tl = (regA fl fc tl tc).1 ∧ tc = (regA fl fc tl tc).2
      else fl = (regA fl fc tl tc).1 ∧ fc = (regA fl fc tl tc).2 ∧ tl = (regB fl fc tl tc).1 ∧ tc = (regB fl fc tl tc).2) := by
  unfold regE at h
  split at h
  · cases h
  · rename_i hk
    split at h
    · cases h
    · rename_i hc
      have h0 : 0 < xss.length := by omega
      have h1 : ((clipS xss fl fc).1 : Int) = fl ∧ ((clipS xss fl fc).2 : Int) = fc := Classical.byContradiction fun e => hc (.inr (.inl e))
      have h2 : ((clipS xss tl tc).1 : Int) = tl ∧ ((clipS xss tl tc).2 : Int) = tc := Classical.byContradiction fun e => hc (.inr (.inr e))
      have l1 := clipS_lt (l := fl) (c := fc) h0
      have l2 := clipS_lt (l := tl) (c := tc) h0
      have c1 := clipS_col xss fl fc
      have c2 := clipS_col xss tl tc
      have e1 : fl.toNat = (clipS xss fl fc).1 := by omega
      have e2 : fc.toNat = (clipS xss fl fc).2 := by omega
      have e3 : tl.toNat = (clipS xss tl tc).1 := by omega
      have e4 : tc.toNat = (clipS xss tl tc).2 := by omega
      unfold regA regB
      by_cases hs : swp fl fc tl tc
      · rw [if_pos hs, if_pos hs, if_pos hs]
        unfold swp at hs
        dsimp only
        rw [e1, e2, e3, e4]
        exact ⟨⟨by omega, by dsimp only; omega, l1, c2, c1, by dsimp only; omega⟩, h1.1.symm, h1.2.symm, h2.1.symm, h2.2.symm⟩
      · rw [if_neg hs, if_neg hs, if_neg hs]
        unfold swp at hs
        dsimp only
        rw [e1, e2, e3, e4]
        exact ⟨⟨by omega, by dsimp only; omega, l2, c1, c2, by dsimp only; omega⟩, h1.1.symm, h1.2.symm, h2.1.symm, h2.2.symm⟩
def colT (kd : Int) (a b : Nat × Nat) (n i : Nat) : Nat := min n (if kd = 2 then max a.2 b.2 + 1 else if kd = 0 ∧ i = b.1 then b.2 + 1 else n)
def colF (kd : Int) (a b : Nat × Nat) (n i : Nat) : Nat := min (colT kd a b n i) (if kd = 2 then min a.2 b.2 else if kd = 0 ∧ i = a.1 then a.2 else 0)
theorem col_le (kd : Int) (a b : Nat × Nat) (n i : Nat) : colF kd a b n i ≤ colT kd a b n i ∧ colT kd a b n i ≤ n := by
  constructor
  · unfold colF; exact Nat.min_le_left _ _
  · unfold colT; exact Nat.min_le_left _ _
def cutIn (x : List Int) (f t : Nat) : List Int := (x.drop f).take (t - f)
def cutOut (x : List Int) (f t : Nat) : List Int := x.take f ++ x.drop t
theorem cutIn_len {x : List Int} {f t : Nat} (h : f ≤ t) (ht : t ≤ x.length) : (cutIn x f t).length = t - f := by
  unfold cutIn; rw [List.length_take, List.length_drop]; omega
theorem cutOut_len {x : List Int} {f t : Nat} (h : f ≤ t) (ht : t ≤ x.length) : (cutOut x f t).length = x.length - (t - f) := by
  unfold cutOut; rw [List.length_append, List.length_take, List.length_drop]; omega
/-- Something of each line of a region. -/
def gathS (g : List Int → Nat → Nat → List Int) (xss : List (List Int)) (kd : Int) (a b : Nat × Nat) (n : Nat) : List (List Int) :=
  (List.range n).map fun j => g (rowN xss (a.1 + j)) (colF kd a b (rowN xss (a.1 + j)).length (a.1 + j)) (colT kd a b (rowN xss (a.1 + j)).length (a.1 + j))
theorem gathS_succ (g : List Int → Nat → Nat → List Int) (xss : List (List Int)) (kd : Int) (a b : Nat × Nat) (n : Nat) :
    gathS g xss kd a b (n + 1) = gathS g xss kd a b n ++ [g (rowN xss (a.1 + n)) (colF kd a b (rowN xss (a.1 + n)).length (a.1 + n)) (colT kd a b (rowN xss (a.1 + n)).length (a.1 + n))] := by
  simp [gathS, List.range_succ]
theorem gathS_length (g : List Int → Nat → Nat → List Int) (xss : List (List Int)) (kd : Int) (a b : Nat × Nat) (n : Nat) : (gathS g xss kd a b n).length = n := by simp [gathS]
theorem tot_map_le (f h : Nat → List Int) : ∀ n, (∀ j, j < n → (f j).length ≤ (h j).length) → tot ((List.range n).map f) ≤ tot ((List.range n).map h)
  | 0, _ => by simp [tot]
  | n + 1, hl => by
    have := tot_map_le f h n (fun j hj => hl j (by omega))
    have := hl n (by omega)
    simp only [List.range_succ, List.map_append, tot_append, List.map_cons, List.map_nil, tot]
    omega
theorem tot_range (xss : List (List Int)) (s n : Nat) (h : s + n ≤ xss.length) : tot ((List.range n).map fun j => rowN xss (s + j)) ≤ tot xss := by
  have : ((List.range n).map fun j => rowN xss (s + j)) = (xss.drop s).take n := by
    apply List.ext_getElem?
    intro j
    rw [List.getElem?_map, List.getElem?_take, List.getElem?_drop]
    by_cases hj : j < n
    · rw [List.getElem?_range hj, if_pos hj, rowN_get (by omega)]; rfl
    · rw [if_neg hj, List.getElem?_eq_none (by simp; omega)]; rfl
  rw [this]
  have h1 := tot_take (xss.drop s) n
  have h2 := tot_drop xss s
  omega
theorem gathS_tot {g : List Int → Nat → Nat → List Int} (hg : ∀ x f t, f ≤ t → t ≤ x.length → (g x f t).length ≤ x.length) (xss : List (List Int)) (kd : Int) (a b : Nat × Nat) (n : Nat) (h : a.1 + n ≤ xss.length) :
    tot (gathS g xss kd a b n) ≤ tot xss := by
  refine Nat.le_trans (tot_map_le _ (fun j => rowN xss (a.1 + j)) n fun j hj => ?_) (tot_range xss a.1 n h)
  have := col_le kd a b (rowN xss (a.1 + j)).length (a.1 + j)
  exact hg _ _ _ this.1 this.2
/-! ### The document's region -/
def aheadS (p q : Int × Int) : Bool := decide (p.1 < q.1) || (decide (p.1 = q.1) && decide (p.2 < q.2))
def hasS (kd : Int) (a b : Nat × Nat) (i k : Nat) : Bool :=
  if kd = 0 then !aheadS (i, k) (a.1, a.2) && !aheadS (b.1, b.2) (i, k)
  else if kd = 1 then decide (a.1 ≤ i) && decide (i ≤ b.1)
  else decide (a.1 ≤ i) && decide (i ≤ b.1) && decide (min a.2 b.2 ≤ k) && decide (k ≤ max a.2 b.2)
theorem hasS_col {xss : List (List Int)} {kd : Int} {a b : Nat × Nat} (h : RegOk xss kd a b) {i k n : Nat} (h1 : a.1 ≤ i) (h2 : i ≤ b.1) (hk : k < n) :
    hasS kd a b i k = true ↔ colF kd a b n i ≤ k ∧ k < colT kd a b n i := by
  have hkd := h.kd
  have hs := h.same
  unfold hasS colF colT aheadS
  rcases (show kd = 0 ∨ kd = 1 ∨ kd = 2 by omega) with rfl | rfl | rfl
  · have e2 : ¬ ((0 : Int) = 2) := by decide
    simp only [if_true, if_neg e2, true_and, Bool.and_eq_true, Bool.not_eq_true', Bool.or_eq_false_iff, Bool.and_eq_false_iff, decide_eq_false_iff_not]
    split <;> split <;> omega
  · have e2 : ¬ ((1 : Int) = 2) := by decide
    have e0 : ¬ ((1 : Int) = 0) := by decide
    simp only [if_neg e0, if_neg e2, if_true, e0, false_and, if_false, Bool.and_eq_true, decide_eq_true_eq]
    omega
  · have e0 : ¬ ((2 : Int) = 0) := by decide
    have e1 : ¬ ((2 : Int) = 1) := by decide
    simp only [if_neg e0, if_neg e1, if_true, Bool.and_eq_true, decide_eq_true_eq]
    omega
/-- What a walk along a row has parted up to k. -/
def pIn (x : List Int) (f t k : Nat) : List Int := (x.take (min k t)).drop f
def pOut (x : List Int) (f t k : Nat) : List Int := x.take (min k f) ++ (x.take k).drop t
theorem pIn_zero (x : List Int) (f t : Nat) : pIn x f t 0 = [] := by simp [pIn]
theorem pOut_zero (x : List Int) (f t : Nat) : pOut x f t 0 = [] := by simp [pOut]
theorem take_drop_snoc {x : List Int} {k f : Nat} {v : Int} (hv : x[k]? = some v) (hf : f ≤ k) : (x.take (k + 1)).drop f = (x.take k).drop f ++ [v] := by
  have hk := (List.getElem?_eq_some_iff.1 hv).1
  rw [take_snoc hv, List.drop_append_of_le_length (by rw [List.length_take]; omega)]
theorem pIn_has {x : List Int} {f t k : Nat} {v : Int} (hv : x[k]? = some v) (h1 : f ≤ k) (h2 : k < t) : pIn x f t (k + 1) = pIn x f t k ++ [v] ∧ pOut x f t (k + 1) = pOut x f t k := by
  have hk := (List.getElem?_eq_some_iff.1 hv).1
  unfold pIn pOut
  rw [Nat.min_eq_left (show k + 1 ≤ t by omega), Nat.min_eq_left (show k ≤ t by omega), Nat.min_eq_right (show f ≤ k + 1 by omega), Nat.min_eq_right h1]
  refine ⟨take_drop_snoc hv h1, ?_⟩
  rw [List.drop_of_length_le (by rw [List.length_take]; omega), List.drop_of_length_le (by rw [List.length_take]; omega)]
theorem pIn_not {x : List Int} {f t k : Nat} {v : Int} (hft : f ≤ t) (hv : x[k]? = some v) (h : ¬ (f ≤ k ∧ k < t)) : pIn x f t (k + 1) = pIn x f t k ∧ pOut x f t (k + 1) = pOut x f t k ++ [v] := by
  have hk := (List.getElem?_eq_some_iff.1 hv).1
  unfold pIn pOut
  rcases Nat.lt_or_ge k f with hl | hl
  · rw [Nat.min_eq_left (show k + 1 ≤ f by omega), Nat.min_eq_left (show k ≤ f by omega), Nat.min_eq_left (show k + 1 ≤ t by omega), Nat.min_eq_left (show k ≤ t by omega)]
    rw [List.drop_of_length_le (by rw [List.length_take]; omega), List.drop_of_length_le (by rw [List.length_take]; omega), List.drop_of_length_le (i := t) (by rw [List.length_take]; omega), List.drop_of_length_le (i := t) (by rw [List.length_take]; omega)]
    exact ⟨rfl, by rw [take_snoc hv]; simp⟩
  · have ht : t ≤ k := by omega
    rw [Nat.min_eq_right (show t ≤ k + 1 by omega), Nat.min_eq_right ht, Nat.min_eq_right (show f ≤ k + 1 by omega), Nat.min_eq_right hl]
    exact ⟨rfl, by rw [take_drop_snoc hv ht, List.append_assoc]⟩
theorem pIn_all {x : List Int} {f t : Nat} (ht : t ≤ x.length) : pIn x f t x.length = cutIn x f t := by
  unfold pIn cutIn
  rw [Nat.min_eq_right ht, List.drop_take]
theorem pOut_all {x : List Int} {f t : Nat} (hft : f ≤ t) (ht : t ≤ x.length) : pOut x f t x.length = cutOut x f t := by
  unfold pOut cutOut
  rw [Nat.min_eq_right (by omega), List.take_length]
theorem pIn_len (x : List Int) (f t k : Nat) : (pIn x f t k).length ≤ x.length := by unfold pIn; rw [List.length_drop, List.length_take]; omega
theorem pOut_len (x : List Int) (f t k : Nat) (hft : f ≤ t) : (pOut x f t k).length ≤ x.length := by unfold pOut; rw [List.length_append, List.length_drop, List.length_take, List.length_take]; omega
end Ls
end Go.Proofs.Ytdfibmbedjpcgaa
