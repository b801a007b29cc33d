/- The engine, seventh part: rows of numbers in memory, read and owned; small rules. Generic over the program but for the numbers of the types int32 (21) and []int32 (48). -/
import Derived.Test.YtdfibmbedjpcgaaEngR
set_option linter.unusedVariables false
set_option linter.unusedSimpArgs false
namespace Go.Proofs.Ytdfibmbedjpcgaa
open Go Go.RowKit
namespace Eng
variable {X : Cx} {k : List It} {F : Fr} {L : List Ast} {T : Tab}

/-! ### Rows that are read -/
def rw_ (xss : List (List Int)) (i : Int) : List Int := xss.getD i.toNat []
theorem rw_get {xss : List (List Int)} {i : Int} (h0 : 0 ≤ i) (h1 : i < xss.length) : xss[i.toNat]? = some (rw_ xss i) := by
  unfold rw_
  rw [List.getD_eq_getElem?_getD, List.getElem?_eq_getElem (by omega)]
  rfl
structure RowsAt (w : World) (A : Option Addr) (xss : List (List Int)) : Prop where
  ex : ∃ vs, Cells w A vs ∧ vs.length = xss.length ∧ ∀ (i : Nat) xs, xss[i]? = some xs → ∃ B c, vs[i]? = some (.slice B xs.length c) ∧ xs.length ≤ c ∧ Cells w B (i32s xs)
theorem RowsAt.below {w w' : World} {A : Option Addr} {xss : List (List Int)} (h : RowsAt w A xss) (hb : Below w.heap.size w w') : RowsAt w' A xss := by
  obtain ⟨vs, h1, h2, h3⟩ := h.ex
  refine ⟨vs, h1.below hb, h2, fun i xs hi => ?_⟩
  obtain ⟨B, c, h4, h5, h6⟩ := h3 i xs hi
  exact ⟨B, c, h4, h5, h6.below hb⟩
theorem RowsAt.isSome {w : World} {A : Option Addr} {xss : List (List Int)} (h : RowsAt w A xss) (hl : 0 < xss.length) : A.isSome = true := by
  obtain ⟨vs, h1, h2, h3⟩ := h.ex
  exact h1.isSome (by omega)
/-- Row i: its header's cell, its cells. -/
theorem RowsAt.row {w : World} {A : Option Addr} {xss : List (List Int)} (h : RowsAt w A xss) {i : Int} (h0 : 0 ≤ i) (h1 : i < xss.length) :
    ∃ B c, (rw_ xss i).length ≤ c ∧ Cells w B (i32s (rw_ xss i)) ∧ ∃ vs : List Value, Cells w A vs ∧ vs[i.toNat]? = some (.slice B (rw_ xss i).length c) := by
  obtain ⟨vs, g1, g2, g3⟩ := h.ex
  obtain ⟨B, c, g4, g5, g6⟩ := g3 i.toNat (rw_ xss i) (rw_get h0 h1)
  exact ⟨B, c, g5, g6, vs, g1, g4⟩
theorem cells_elem1 {w w' : World} {A : Option Addr} {j : Nat} {v : Value} (h : ∃ vs : List Value, Cells w A vs ∧ vs[j]? = some v) (hb : Below w.heap.size w w') : ∃ ad, Value.pointer (A.map (·.add (j * 1))) = .pointer (some ad) ∧ w'.cell? ad = some v := by
  obtain ⟨vs, h1, h2⟩ := h
  exact (h1.below hb).elem1 h2
theorem RowsAt.take {w : World} {A : Option Addr} {xss : List (List Int)} (h : RowsAt w A xss) (m : Nat) : RowsAt w A (xss.take m) := by
  obtain ⟨vs, h1, h2, h3⟩ := h.ex
  refine ⟨vs.take m, h1.take m, by simp [h2], fun i xs hi => ?_⟩
  rw [List.getElem?_take] at hi
  split at hi
  · rename_i hlt
    obtain ⟨B, c, h4, h5, h6⟩ := h3 i xs hi
    exact ⟨B, c, by rw [List.getElem?_take, if_pos hlt]; exact h4, h5, h6⟩
  · cases hi
theorem RowsAt.drop {w : World} {A : Option Addr} {xss : List (List Int)} (h : RowsAt w A xss) (m : Nat) : RowsAt w (A.map (·.add m)) (xss.drop m) := by
  obtain ⟨vs, h1, h2, h3⟩ := h.ex
  refine ⟨vs.drop m, h1.drop m, by simp [h2], fun i xs hi => ?_⟩
  rw [List.getElem?_drop] at hi
  obtain ⟨B, c, h4, h5, h6⟩ := h3 _ xs hi
  exact ⟨B, c, by rw [List.getElem?_drop]; exact h4, h5, h6⟩
theorem RowsAt.nil (w : World) (A : Option Addr) : RowsAt w A [] := ⟨[], Cells.nil _ _, rfl, fun i xs h => by simp at h⟩
theorem RowsAt.cut {w : World} {A : Option Addr} {xss : List (List Int)} (h : RowsAt w A xss) (lo hi m : Nat) (hm : hi ≤ m) : RowsAt w (cutA A lo m 1) ((xss.drop lo).take (hi - lo)) := by
  unfold cutA
  split
  · rename_i e
    rw [show hi - lo = 0 by omega, List.take_zero]
    exact RowsAt.nil _ _
  · rw [Nat.mul_one]; exact (h.drop lo).take _

/-! ### Assertions joined -/
def seps (l : List Ast) : Ast where
  A w S := HpS w l S
  loc := fun h hm => HpS.loc h hm
  live := fun h hb => HpS.live h hb
theorem seps_A {l : List Ast} {w : World} {S : Nat → Prop} : (seps l).A w S ↔ HpS w l S := Iff.rfl
attribute [irreducible] seps
theorem Ent.seps_nil (L : List Ast) : Ent L (seps [] :: L) := fun w S h => ⟨S, ⟨fun _ => False, S, seps_A.2 (fun _ hb => hb), h, fun _ hb _ => hb, fun b => by simp⟩, fun _ hb => hb⟩
theorem Ent.seps_out (l : List Ast) (L : List Ast) : Ent (seps l :: L) (l ++ L) := fun w S ⟨S1, S2, h1, h2, h3, h4⟩ =>
  ⟨_, HpS.append (seps_A.1 h1) h2 h3, fun b hb => (h4 b).2 hb⟩
theorem Ent.seps_in (l : List Ast) (L : List Ast) : Ent (l ++ L) (seps l :: L) := fun w S h => by
  obtain ⟨S1, S2, h1, h2, h3, h4⟩ := HpS.split h
  exact ⟨S, ⟨S1, S2, seps_A.2 h1, h2, h3, h4⟩, fun _ hb => hb⟩
theorem Ent.seps_app (l m : List Ast) (L : List Ast) : Ent (seps l :: seps m :: L) (seps (l ++ m) :: L) :=
  (Ent.seps_out l _).trans (((Ent.pre l (Ent.seps_out m L))).trans (by rw [← List.append_assoc]; exact Ent.seps_in _ _))
where
  Ent.pre (l : List Ast) {M N : List Ast} (h : Ent M N) : Ent (l ++ M) (l ++ N) := by
    induction l with
    | nil => exact h
    | cons a r ih => exact Ent.cons a ih
theorem Ent.pre (l : List Ast) {M N : List Ast} (h : Ent M N) : Ent (l ++ M) (l ++ N) := by
  induction l with
  | nil => exact h
  | cons a r ih => exact Ent.cons a ih
theorem Ent.seps_split (l m : List Ast) (L : List Ast) : Ent (seps (l ++ m) :: L) (seps l :: seps m :: L) := by
  refine (Ent.seps_out _ _).trans ?_
  rw [List.append_assoc]
  exact (Ent.pre l (Ent.seps_in m L)).trans (Ent.seps_in l _)
theorem Ent.seps_one (a : Ast) (L : List Ast) : Ent (seps [a] :: L) (a :: L) := Ent.seps_out [a] L
theorem Ent.one_seps (a : Ast) (L : List Ast) : Ent (a :: L) (seps [a] :: L) := Ent.seps_in [a] L

/-! ### Rows that are owned -/
def rowA (v : Value) (xs : List Int) : Ast where
  A w S := ∃ A c, v = .slice A xs.length c ∧ (own 21 1 A xs.length c (i32s xs)).A w S
  loc := fun ⟨A, c, h1, h2⟩ hm => ⟨A, c, h1, Ast.loc _ h2 hm⟩
  live := fun ⟨A, c, h1, h2⟩ hb => Ast.live _ h2 hb
theorem rowA_A {v : Value} {xs : List Int} {w : World} {S : Nat → Prop} : (rowA v xs).A w S ↔ ∃ A c, v = .slice A xs.length c ∧ (own 21 1 A xs.length c (i32s xs)).A w S := Iff.rfl
attribute [irreducible] rowA
theorem Ent.rowA_in (A : Option Addr) (c : Nat) (xs : List Int) (L : List Ast) : Ent (own 21 1 A xs.length c (i32s xs) :: L) (rowA (.slice A xs.length c) xs :: L) := fun w S ⟨S1, S2, h1, h2, h3, h4⟩ =>
  ⟨S, ⟨S1, S2, rowA_A.2 ⟨A, c, rfl, h1⟩, h2, h3, h4⟩, fun _ hb => hb⟩
theorem W_rowA {v : Value} {xs : List Int} (h : ∀ A c, v = .slice A xs.length c → W X k F (own 21 1 A xs.length c (i32s xs) :: L)) : W X k F (rowA v xs :: L) := fun a w ha hw => by
  obtain ⟨S, ⟨S1, S2, h1, h2, h3, h4⟩, hB⟩ := hw.hp
  obtain ⟨A, c, e, g⟩ := rowA_A.1 h1
  exact h A c e a w ha ⟨hw.below, hw.le, S, ⟨S1, S2, g, h2, h3, h4⟩, hB⟩
def rowsA (vs : List Value) (xss : List (List Int)) : Ast := seps (List.zipWith rowA vs xss)
theorem Ent.rowsA_nil (L : List Ast) : Ent L (rowsA [] [] :: L) := Ent.seps_nil L
theorem Ent.rowsA_snoc {vs : List Value} {xss : List (List Int)} (hl : vs.length = xss.length) (v : Value) (xs : List Int) (L : List Ast) : Ent (rowsA vs xss :: rowA v xs :: L) (rowsA (vs ++ [v]) (xss ++ [xs]) :: L) := by
  unfold rowsA
  rw [List.zipWith_append hl]
  exact (Ent.cons _ (Ent.one_seps _ _)).trans (Ent.seps_app _ _ _)
theorem Ent.rowsA_last {vs : List Value} {xss : List (List Int)} (hl : vs.length = xss.length) (v : Value) (xs : List Int) (L : List Ast) : Ent (rowsA (vs ++ [v]) (xss ++ [xs]) :: L) (rowsA vs xss :: rowA v xs :: L) := by
  unfold rowsA
  rw [List.zipWith_append hl]
  exact (Ent.seps_split _ _ _).trans (Ent.cons _ (Ent.seps_one _ _))
theorem Ent.rowsA_app {vs us : List Value} {xss yss : List (List Int)} (hl : vs.length = xss.length) (L : List Ast) : Ent (rowsA vs xss :: rowsA us yss :: L) (rowsA (vs ++ us) (xss ++ yss) :: L) := by
  unfold rowsA
  rw [List.zipWith_append hl]
  exact Ent.seps_app _ _ _
theorem Ent.rowsA_split {vs us : List Value} {xss yss : List (List Int)} (hl : vs.length = xss.length) (L : List Ast) : Ent (rowsA (vs ++ us) (xss ++ yss) :: L) (rowsA vs xss :: rowsA us yss :: L) := by
  unfold rowsA
  rw [List.zipWith_append hl]
  exact Ent.seps_split _ _ _
theorem HpS.nth {w : World} : ∀ {l : List Ast} {S : Nat → Prop} (i : Nat) {a : Ast}, HpS w l S → l[i]? = some a → ∃ S1, a.A w S1
  | [], _, i, _, _, h => by simp at h
  | x :: l, _, 0, a, ⟨S1, _, h1, _⟩, h => by
    have : x = a := by simpa using h
    subst this
    exact ⟨S1, h1⟩
  | x :: l, _, i + 1, a, ⟨_, _, _, h2, _⟩, h => HpS.nth i h2 (by simpa using h)
/-- What is owned reads as rows. -/
theorem rows_of {B : Nat} {w : World} {L : List Ast} (h : Hp B w L) (i j : Nat) {A : Option Addr} {c : Nat} {vs : List Value} {xss : List (List Int)} {n : Nat} (hi : L[i]? = some (own 48 1 A n c vs)) (hj : L[j]? = some (rowsA vs xss)) (hl : vs.length = xss.length) : RowsAt w A xss := by
  have h1 := h.cells i hi
  obtain ⟨S, hS, _⟩ := h.nth j hj
  refine ⟨vs, h1, hl, fun q xs hq => ?_⟩
  have hlt : q < vs.length := by rw [hl]; exact (List.getElem?_eq_some_iff.1 hq).1
  obtain ⟨S1, g⟩ := HpS.nth q (a := rowA vs[q] xs) (seps_A.1 (show (seps _).A w S from hS)) (by rw [List.getElem?_zipWith, List.getElem?_eq_getElem hlt, hq])
  obtain ⟨B, c', e, g2⟩ := rowA_A.1 g
  have g3 := (own_A.1 g2).1
  exact ⟨B, c', by rw [List.getElem?_eq_getElem hlt, e], (g3.length).2.1, g3.cells⟩
theorem Hp.rows {B : Nat} {w : World} {L : List Ast} (h : Hp B w L) (i : Nat) {a b : Ast} (hi : L[i]? = some a) : ∃ S, a.A w S := by
  obtain ⟨S, hS, _⟩ := h.nth i hi
  exact ⟨S, hS⟩

/-! ### Small rules -/
theorem i32s_one (xs : List Int) : ∀ u ∈ i32s xs, u.oneCell' = true := by
  intro u hu
  obtain ⟨x, _, rfl⟩ := List.mem_map.1 hu
  rfl
theorem i64s_one (xs : List Int) : ∀ u ∈ i64s xs, u.oneCell' = true := by
  intro u hu
  obtain ⟨x, _, rfl⟩ := List.mem_map.1 hu
  rfl
theorem one_of (v : Value) (h : v.oneCell' = true) : ∀ u ∈ [v], u.oneCell' = true := by
  intro u hu
  have : u = v := by simpa using hu
  rw [this]; exact h
/-- An empty literal: a new block of nothing. -/
theorem W_lit0 (hT : TabOk X.P T) {all : Array Oper} {d : Nat} {t ty : TypeId} {pos : String} {af : Array Edge} {l : List Oper} {e size bytes : Nat} {z : Value}
    (hd : Nat.blt d X.n = true) (ht : slT T t = some (e, size, bytes, z))
    (h : ∀ g, W X (.ops all l :: k) ((d, .slice (some ⟨g, 0, none⟩) 0 0) :: F) L) :
    W X (.ops all (⟨some d, .buildSlice t 0 #[], ty, pos, af, none⟩ :: l) :: k) F L :=
  W_valw hd (fun a w ha hw => by
    have hS := slT_sound hT ht
    have := hw.newOwn e size 0 0 [] [] (Nat.le_refl _) (by unfold maxLen; omega) (by simp) (by simp)
    refine ⟨_, _, _, ?_, this.ent (Ent.drop1 _ _), h w.heap.size⟩
    obtain ⟨i, hi, hz, hs, hby⟩ := hS.i
    simp [execOp, Instr.buildSlice, run_underlying hS.u, sizeOf, typeInfo, hi, Instr.fill, newRow]
    have : Array.map (fun _ : Nat => (default : Value)) (Array.range 0) = #[] := by apply Array.ext'; simp
    rw [this])
theorem Ent.of_eq {L M : List Ast} (h : L = M) : Ent L M := h ▸ Ent.refl L
theorem Ent.drop2 (a b : Ast) (L : List Ast) : Ent (a :: b :: L) L := (Ent.drop1 _ _).trans (Ent.drop1 _ _)
theorem Ent.snd (a b : Ast) (L : List Ast) : Ent (a :: b :: L) (a :: L) := Ent.cons a (Ent.drop1 b L)
theorem Ent.pk (i : Nat) {L M : List Ast} (h : Eng.pick i L = M) : Ent L M := by rw [← h]; exact Ent.pick i L
theorem Ent.own_zero (e size : Nat) (A : Option Addr) (L : List Ast) : Ent L (own e size A 0 0 [] :: L) := fun w S h =>
  ⟨S, ⟨fun _ => False, S, own_A.2 ⟨.inl ⟨rfl, rfl, rfl⟩, fun x => by simp⟩, h, fun _ hb _ => hb, fun b => by simp⟩, fun _ hb => hb⟩
theorem Ent.own_cast {e size : Nat} {A : Option Addr} {n n' c : Nat} {cs cs' : List Value} (hn : n = n') (hc : cs = cs') (L : List Ast) : Ent (own e size A n c cs :: L) (own e size A n' c cs' :: L) := by
  subst hn; subst hc; exact Ent.refl _
theorem Ent.push_row {vs : List Value} {xss : List (List Int)} (hl : vs.length = xss.length) (A : Option Addr) (c : Nat) (xs : List Int) (H : Ast) (L : List Ast) :
    Ent (own 21 1 A xs.length c (i32s xs) :: H :: rowsA vs xss :: L) (H :: rowsA (vs ++ [.slice A xs.length c]) (xss ++ [xs]) :: L) :=
  (Ent.rowA_in A c xs _).trans ((Ent.swap _ _ _).trans (Ent.cons H ((Ent.swap _ _ _).trans (Ent.rowsA_snoc hl _ _ _))))
/-- A part of what is owned, from its beginning. -/
theorem Ent.own_cut {e size : Nat} {A : Option Addr} {n c : Nat} {cs : List Value} {n' c' : Nat} (h1 : n' ≤ n) (h2 : n' ≤ c') (h3 : c' ≤ c) (L : List Ast) : Ent (own e size A n c cs :: L) (own e size A n' c' (cs.take (n' * size)) :: L) := fun w S ⟨S1, S2, g1, g2, g3, g4⟩ => by
  obtain ⟨k1, k2⟩ := own_A.1 g1
  refine ⟨fun b => (0 < c' ∧ A.map (·.block) = some b) ∨ S2 b, ⟨fun b => 0 < c' ∧ A.map (·.block) = some b, S2, own_A.2 ⟨?_, fun x => Iff.rfl⟩, g2, fun b hb hb2 => g3 b ((k2 b).2 ⟨by omega, hb.2⟩) hb2, fun _ => Iff.rfl⟩, fun b hb => ?_⟩
  · rcases k1 with ⟨rfl, rfl, rfl⟩ | ⟨g, cur, rfl, hg, h4, h5, h6, h7, h8⟩
    · exact .inl ⟨by omega, by omega, by simp⟩
    · have hm : n' * size ≤ n * size := Nat.mul_le_mul_right _ h1
      have hm2 : c' * size ≤ c * size := Nat.mul_le_mul_right _ h3
      refine .inr ⟨g, cur, rfl, hg, h2, by omega, by omega, by rw [List.length_take, h7]; omega, ?_⟩
      rw [← h8, List.take_take, Nat.min_eq_left hm]
  · rcases hb with hb | hb
    · exact (g4 b).2 (.inl ((k2 b).2 ⟨by omega, hb.2⟩))
    · exact (g4 b).2 (.inr hb)
/-- What hands back rows of its own. -/
def RowsR (xss : List (List Int)) (v : Value) (M : List Ast) : Prop := ∃ A c vs, v = .slice A xss.length c ∧ vs.length = xss.length ∧ M = [own 48 1 A xss.length c vs, rowsA vs xss]
/-- What hands back a row of its own. -/
def RowR (xs : List Int) (v : Value) (M : List Ast) : Prop := ∃ A c, v = .slice A xs.length c ∧ M = [own 21 1 A xs.length c (i32s xs)]

/-! ### Some, and what holds of it -/
def exA {α : Type} (f : α → Ast) : Ast where
  A w S := ∃ a, (f a).A w S
  loc := fun ⟨a, h⟩ hm => ⟨a, (f a).loc h hm⟩
  live := fun ⟨a, h⟩ hb => (f a).live h hb
theorem exA_A {α : Type} {f : α → Ast} {w : World} {S : Nat → Prop} : (exA f).A w S ↔ ∃ a, (f a).A w S := Iff.rfl
attribute [irreducible] exA
def andA (p : Prop) (a : Ast) : Ast where
  A w S := p ∧ a.A w S
  loc := fun ⟨h1, h2⟩ hm => ⟨h1, a.loc h2 hm⟩
  live := fun ⟨h1, h2⟩ hb => a.live h2 hb
theorem andA_A {p : Prop} {a : Ast} {w : World} {S : Nat → Prop} : (andA p a).A w S ↔ p ∧ a.A w S := Iff.rfl
attribute [irreducible] andA
theorem W_exA {α : Type} {f : α → Ast} (h : ∀ a, W X k F (f a :: L)) : W X k F (exA f :: L) := fun a w ha hw => by
  obtain ⟨S, ⟨S1, S2, h1, h2, h3, h4⟩, hB⟩ := hw.hp
  obtain ⟨q, g⟩ := exA_A.1 h1
  exact h q a w ha ⟨hw.below, hw.le, S, ⟨S1, S2, g, h2, h3, h4⟩, hB⟩
theorem W_andA {p : Prop} {b : Ast} (h : p → W X k F (b :: L)) : W X k F (andA p b :: L) := fun a w ha hw => by
  obtain ⟨S, ⟨S1, S2, h1, h2, h3, h4⟩, hB⟩ := hw.hp
  obtain ⟨q, g⟩ := andA_A.1 h1
  exact h q a w ha ⟨hw.below, hw.le, S, ⟨S1, S2, g, h2, h3, h4⟩, hB⟩
theorem Ent.exA_in {α : Type} (f : α → Ast) (a : α) (L : List Ast) : Ent (f a :: L) (exA f :: L) := fun w S ⟨S1, S2, h1, h2, h3, h4⟩ =>
  ⟨S, ⟨S1, S2, exA_A.2 ⟨a, h1⟩, h2, h3, h4⟩, fun _ hb => hb⟩
theorem Ent.andA_in {p : Prop} (hp : p) (a : Ast) (L : List Ast) : Ent (a :: L) (andA p a :: L) := fun w S ⟨S1, S2, h1, h2, h3, h4⟩ =>
  ⟨S, ⟨S1, S2, andA_A.2 ⟨hp, h1⟩, h2, h3, h4⟩, fun _ hb => hb⟩
theorem W_seps {l : List Ast} (h : W X k F (l ++ L)) : W X k F (seps l :: L) := W_ent (Ent.seps_out l L) h

/-! ### Rows of whole numbers -/
def intsA (v : Value) (xs : List Int) : Ast := exA fun (q : Option Addr × Nat) => andA (v = .slice q.1 xs.length q.2) (own 3 1 q.1 xs.length q.2 (i64s xs))
theorem W_intsA {v : Value} {xs : List Int} (h : ∀ A c, v = .slice A xs.length c → W X k F (own 3 1 A xs.length c (i64s xs) :: L)) : W X k F (intsA v xs :: L) :=
  W_exA fun q => W_andA fun e => h q.1 q.2 e
theorem Ent.intsA_in (A : Option Addr) (c : Nat) (xs : List Int) (L : List Ast) : Ent (own 3 1 A xs.length c (i64s xs) :: L) (intsA (.slice A xs.length c) xs :: L) :=
  (Ent.andA_in rfl _ _).trans (Ent.exA_in (fun (q : Option Addr × Nat) => andA (Value.slice A xs.length c = .slice q.1 xs.length q.2) (own 3 1 q.1 xs.length q.2 (i64s xs))) (A, c) _)
/-- What hands back whole numbers of its own. -/
def IntsR (xs : List Int) (v : Value) (M : List Ast) : Prop := ∃ A c, v = .slice A xs.length c ∧ M = [own 3 1 A xs.length c (i64s xs)]
theorem ptr_at {A : Option Addr} {o : Nat} : ∀ ad, A = some ad → Value.pointer (A.map (·.add o)) = .pointer (some (ad.add o)) := by
  intro ad h; rw [h]; rfl

theorem Cells.cut32 {w : World} {A : Option Addr} {xs : List Int} (h : Cells w A (i32s xs)) (lo hi m : Nat) (hm : hi ≤ m) : Cells w (cutA A lo m 1) (i32s ((xs.drop lo).take (hi - lo))) := by
  have := h.cut lo hi m 1 hm
  rw [Nat.mul_one, Nat.mul_one] at this
  simpa [i32s, List.map_take, List.map_drop] using this
theorem Cells.cut64 {w : World} {A : Option Addr} {xs : List Int} (h : Cells w A (i64s xs)) (lo hi m : Nat) (hm : hi ≤ m) : Cells w (cutA A lo m 1) (i64s ((xs.drop lo).take (hi - lo))) := by
  have := h.cut lo hi m 1 hm
  rw [Nat.mul_one, Nat.mul_one] at this
  simpa [i64s, List.map_take, List.map_drop] using this

theorem W_ownlen (i : Nat) {e : TypeId} {size : Nat} {A : Option Addr} {n c : Nat} {cs : List Value} (hi : L[i]? = some (own e size A n c cs)) (h : cs.length = n * size → n ≤ c → c ≤ maxLen → W X k F L) : W X k F L := fun a w ha hw => by
  obtain ⟨S, hS, _⟩ := hw.hp.nth i hi
  obtain ⟨h1, h2, h3⟩ := ((own_A.1 hS).1).length
  exact h h1 h2 h3 a w ha hw
end Eng
end Go.Proofs.Ytdfibmbedjpcgaa
