/- The engine, third part: operations on memory: variables in blocks of their own, slices that are owned, slices that are read. Generic over the program. -/
import Derived.Test.YtdfibmbedjpcgaaEngP
set_option linter.unusedVariables false
set_option linter.unusedSimpArgs false
namespace Go.Proofs.Ytdfibmbedjpcgaa
open Go Go.RowKit
namespace Eng

/-! ### A stretch of operations that only compute -/
def pvs (n : Nat) (T : Tab) : Fr → List Oper → Option (Fr × List Oper × Prop)
  | F, ⟨some d, op, _, _, _, none⟩ :: r => match Nat.blt d n, pv T F op with
    | true, some (v, p) => match pvs n T ((d, v) :: F) r with
      | some (F', r', q) => some (F', r', p ∧ q)
      | none => some ((d, v) :: F, r, p)
    | _, _ => none
  | _, _ => none
theorem W_pure {X : Cx} {k : List It} {L : List Ast} {T : Tab} (hT : TabOk X.P T) {all : Array Oper} : ∀ {l : List Oper} {F F' : Fr} {l' : List Oper} {p : Prop}, pvs X.n T F l = some (F', l', p) → p →
    W X (.ops all l' :: k) F' L → W X (.ops all l :: k) F L := by
  intro l
  induction l with
  | nil => intro F F' l' p h; simp [pvs] at h
  | cons o r ih =>
    intro F F' l' p h hp hW
    obtain ⟨dst, op, ty, pos, af, g⟩ := o
    cases dst with
    | none => simp [pvs] at h
    | some d =>
      cases g with
      | some g => simp [pvs] at h
      | none =>
        simp only [pvs] at h
        split at h
        · rename_i v q hd hv
          split at h
          · rename_i F2 r2 q2 h2
            injection h with h; injection h with h3 h4; injection h4 with h4 h5
            subst h3; subst h4; subst h5
            exact W_val hd (fun a w ha hw => pv_sound hT hv hp.1 ha _ _ _ _ w) (ih h2 hp.2 hW)
          · injection h with h; injection h with h3 h4; injection h4 with h4 h5
            subst h3; subst h4; subst h5
            exact W_val hd (fun a w ha hw => pv_sound hT hv hp ha _ _ _ _ w) hW
        · cases h
theorem W_pure1 {X : Cx} {k : List It} {F : Fr} {L : List Ast} {T : Tab} (hT : TabOk X.P T) {all : Array Oper} {d : Nat} {op : Op} {ty : TypeId} {pos : String} {af : Array Edge} {l : List Oper} {v : Value} {p : Prop}
    (hd : Nat.blt d X.n = true) (h : pv T F op = some (v, p)) (hp : p) (hW : W X (.ops all l :: k) ((d, v) :: F) L) : W X (.ops all (⟨some d, op, ty, pos, af, none⟩ :: l) :: k) F L :=
  W_val hd (fun a w ha hw => pv_sound hT h hp ha _ _ _ _ w) hW

/-! ### Cells that are read -/
def Cells (w : World) (A : Option Addr) (cs : List Value) : Prop := ∀ j v, cs[j]? = some v → ∃ a, A = some a ∧ w.cell? (a.add j) = some v
theorem Cells.nil (w : World) (A : Option Addr) : Cells w A [] := fun j v h => by simp at h
theorem Cells.below {w w' : World} {A : Option Addr} {cs : List Value} (h : Cells w A cs) (hb : Below w.heap.size w w') : Cells w' A cs := fun j v hj => by
  obtain ⟨a, ha, hc⟩ := h j v hj
  exact ⟨a, ha, (hb.cell (World.block_lt_of_cell? w _ hc)).trans hc⟩
theorem add_add (a : Addr) (i j : Nat) : (a.add i).add j = a.add (i + j) := by
  unfold Addr.add
  by_cases hi : i = 0
  · subst hi; simp
  · by_cases hj : j = 0
    · subst hj; simp [hi]
    · rw [if_neg hi, if_neg hj, if_neg (by omega)]
      simp [Nat.add_assoc]
theorem add_block (a : Addr) (i : Nat) : (a.add i).block = a.block := by unfold Addr.add; split <;> rfl
theorem add_lit (b o j : Nat) : (⟨b, o, none⟩ : Addr).add j = ⟨b, o + j, none⟩ := by unfold Addr.add; split <;> simp_all
theorem Cells.take {w : World} {A : Option Addr} {cs : List Value} (h : Cells w A cs) (m : Nat) : Cells w A (cs.take m) := fun j v hj => by
  rw [List.getElem?_take] at hj
  split at hj
  · exact h j v hj
  · cases hj
theorem Cells.drop {w : World} {A : Option Addr} {cs : List Value} (h : Cells w A cs) (m : Nat) : Cells w (A.map (·.add m)) (cs.drop m) := fun j v hj => by
  rw [List.getElem?_drop] at hj
  obtain ⟨a, ha, hc⟩ := h _ v hj
  exact ⟨a.add m, by rw [ha]; rfl, by rw [add_add]; exact hc⟩
/-- A cut of a slice: its cells. -/
theorem Cells.cut {w : World} {A : Option Addr} {cs : List Value} (h : Cells w A cs) (lo hi m sz : Nat) (hm : hi ≤ m) : Cells w (cutA A lo m sz) ((cs.drop (lo * sz)).take ((hi - lo) * sz)) := by
  unfold cutA
  split
  · rename_i e
    rw [show hi - lo = 0 by omega]
    simp only [Nat.zero_mul, List.take_zero]
    exact Cells.nil _ _
  · exact (h.drop _).take _
theorem Cells.append {w : World} {A : Option Addr} {cs ds : List Value} (h : Cells w A cs) (h' : Cells w (A.map (·.add cs.length)) ds) : Cells w A (cs ++ ds) := fun j v hj => by
  rcases Nat.lt_or_ge j cs.length with hl | hl
  · rw [List.getElem?_append_left hl] at hj; exact h j v hj
  · rw [List.getElem?_append_right hl] at hj
    obtain ⟨a, ha, hc⟩ := h' _ v hj
    cases A with
    | none => simp at ha
    | some b =>
      simp at ha
      subst ha
      refine ⟨b, rfl, ?_⟩
      rw [add_add] at hc
      rwa [show cs.length + (j - cs.length) = j by omega] at hc

/-! ### A variable in a block of its own -/
def box (b : Nat) (t : TypeId) (cs : List Value) : Ast where
  A w S := w.heap[b]? = some (.cells cs.toArray t (0, 0)) ∧ ∀ x, S x ↔ x = b
  loc := fun {w w' S} ⟨h1, h2⟩ hm => ⟨(hm b ((h2 b).2 rfl)).trans h1, h2⟩
  live := fun {w S b'} ⟨h1, h2⟩ hb => by
    have := (h2 b').1 hb
    subst this
    exact (Array.getElem?_eq_some_iff.1 h1).1
theorem box_A {b : Nat} {t : TypeId} {cs : List Value} {w : World} {S : Nat → Prop} : (box b t cs).A w S ↔ (w.heap[b]? = some (.cells cs.toArray t (0, 0)) ∧ ∀ x, S x ↔ x = b) := Iff.rfl
attribute [irreducible] box

/-! ### A slice that is owned, its spare places too -/
def ownR (w : World) (e : TypeId) (size : Nat) (A : Option Addr) (n c : Nat) (cs : List Value) : Prop :=
  (n = 0 ∧ c = 0 ∧ cs = []) ∨
  (∃ g cur, A = some ⟨g, 0, none⟩ ∧ w.heap[g]? = some (.cells cur e (0, 0)) ∧ n ≤ c ∧ c ≤ maxLen ∧ c * size ≤ cur.size ∧ cs.length = n * size ∧ cur.toList.take (n * size) = cs)
def own (e : TypeId) (size : Nat) (A : Option Addr) (n c : Nat) (cs : List Value) : Ast where
  A w S := ownR w e size A n c cs ∧ ∀ x, S x ↔ (0 < c ∧ A.map (·.block) = some x)
  loc := fun {w w' S} ⟨h1, h2⟩ hm => ⟨by
    rcases h1 with h1 | ⟨g, cur, hA, hg, r⟩
    · exact .inl h1
    · rcases Nat.eq_zero_or_pos c with hc | hc
      · obtain ⟨r1, _, _, r4, _⟩ := r
        have hn : n = 0 := by omega
        refine .inl ⟨hn, hc, ?_⟩
        rw [hn, Nat.zero_mul] at r4
        exact List.eq_nil_of_length_eq_zero r4
      · exact .inr ⟨g, cur, hA, (hm g ((h2 g).2 ⟨hc, by rw [hA]; rfl⟩)).trans hg, r⟩, h2⟩
  live := fun {w S b} ⟨h1, h2⟩ hb => by
    obtain ⟨hc, hA⟩ := (h2 b).1 hb
    rcases h1 with ⟨_, h, _⟩ | ⟨g, cur, hA', hg, _⟩
    · omega
    · rw [hA'] at hA
      injection hA with hA
      subst hA
      exact (Array.getElem?_eq_some_iff.1 hg).1
theorem own_A {e : TypeId} {size : Nat} {A : Option Addr} {n c : Nat} {cs : List Value} {w : World} {S : Nat → Prop} : (own e size A n c cs).A w S ↔ (ownR w e size A n c cs ∧ ∀ x, S x ↔ (0 < c ∧ A.map (·.block) = some x)) := Iff.rfl
attribute [irreducible] own
theorem ownR.cells {w : World} {e : TypeId} {size : Nat} {A : Option Addr} {n c : Nat} {cs : List Value} (h : ownR w e size A n c cs) : Cells w A cs := by
  rcases h with ⟨_, _, rfl⟩ | ⟨g, cur, rfl, hg, h1, h2, h3, h4, h5⟩
  · exact Cells.nil _ _
  · intro j v hj
    refine ⟨_, rfl, ?_⟩
    have hlt : j < cs.length := (List.getElem?_eq_some_iff.1 hj).1
    rw [add_lit, Nat.zero_add, cell_of_row w g j cur e (0, 0) hg]
    rw [← h5, List.getElem?_take, if_pos (by omega)] at hj
    simpa using hj
theorem ownR.length {w : World} {e : TypeId} {size : Nat} {A : Option Addr} {n c : Nat} {cs : List Value} (h : ownR w e size A n c cs) : cs.length = n * size ∧ n ≤ c ∧ c ≤ maxLen := by
  rcases h with ⟨rfl, rfl, rfl⟩ | ⟨g, cur, rfl, hg, h1, h2, h3, h4, h5⟩
  · simp
  · exact ⟨h4, h1, h2⟩
theorem Hp.cells {B : Nat} {w : World} {L : List Ast} (i : Nat) {e : TypeId} {size : Nat} {A : Option Addr} {n c : Nat} {cs : List Value} (h : Hp B w L) (hi : L[i]? = some (own e size A n c cs)) : Cells w A cs := by
  obtain ⟨S, hS, _⟩ := h.nth i hi
  exact (own_A.1 hS).1.cells

/-! ### Reading -/
/-- The size of a slice type's elements. -/
def elsz (T : Tab) (t : TypeId) : Option Nat := match tget T t with | some i => (match i.u with | .slice e => fsize T e | _ => none) | none => none
def oneC (T : Tab) (t : TypeId) : Bool := match tget T t with | some i => !isAggD i.u | none => false
def mulC (T : Tab) (t : TypeId) (n : Nat) : Bool := match tget T t with | some i => isAggD i.u && Nat.beq i.ti.size n | none => false
section
variable {X : Cx} {k : List It} {F : Fr} {L : List Ast} {T : Tab}
theorem load1 (hT : TabOk X.P T) {t : TypeId} (ht : oneC T t = true) {ad : Addr} {v : Value} {w : World} (h : w.cell? ad = some v) : (loadVar t ad).run X.P w = .ok v w := by
  unfold oneC at ht
  split at ht
  · rename_i i hi
    have hu := (hT.get hi).u
    have hag : (isAgg t).run X.P w = .ok false w := by
      unfold isAgg
      simp only [Sem.run_bind, run_underlying hu, Result.andThen_ok]
      cases hd : i.u <;> simp_all [isAggD]
    simp [loadVar, hag, h]
  · cases ht
theorem loadN (hT : TabOk X.P T) {t : TypeId} {cs : List Value} (ht : mulC T t cs.length = true) {ad : Addr} {w : World} (h : ∀ j v, cs[j]? = some v → w.cell? (ad.add j) = some v) : (loadVar t ad).run X.P w = .ok (.agg cs.toArray) w := by
  unfold mulC at ht
  split at ht
  · rename_i i hi
    simp only [Bool.and_eq_true] at ht
    have hu := (hT.get hi).u
    have hs : i.ti.size = cs.length := Nat.eq_of_beq_eq_true ht.2
    have hag : (isAgg t).run X.P w = .ok true w := by
      unfold isAgg
      simp only [Sem.run_bind, run_underlying hu, Result.andThen_ok]
      cases hd : i.u <;> simp_all [isAggD]
    simp [loadVar, hag, sizeOf, typeInfo, (hT.get hi).ti, hs, run_loadCells_list w ad cs h]
  · cases ht
/-- A load of one cell: what is there is shown in the world at hand. -/
theorem W_load (hT : TabOk X.P T) {all : Array Oper} {d : Nat} {t : TypeId} {x : Operand} {ty : TypeId} {pos : String} {af : Array Edge} {l : List Oper} {pw v : Value}
    (hd : Nat.blt d X.n = true) (ht : oneC T t = true) (hx : ev F x = some pw) (hc : ∀ w, St X.B X.w0 w L → ∃ ad, pw = .pointer (some ad) ∧ w.cell? ad = some v)
    (h : W X (.ops all l :: k) ((d, v) :: F) L) : W X (.ops all (⟨some d, .load t x, ty, pos, af, none⟩ :: l) :: k) F L :=
  W_val hd (fun a w ha hw => by
    obtain ⟨ad, hp, hcell⟩ := hc w hw
    have hx' := ev_sound ha hx
    simp [execOp, hx', hp, Instr.loadAt, Instr.sureAddr, load1 hT ht hcell]) h
theorem W_loadN (hT : TabOk X.P T) {all : Array Oper} {d : Nat} {t : TypeId} {x : Operand} {ty : TypeId} {pos : String} {af : Array Edge} {l : List Oper} {pw : Value} {cs : List Value}
    (hd : Nat.blt d X.n = true) (hx : ev F x = some pw) (ht : mulC T t cs.length = true) (hc : ∀ w, St X.B X.w0 w L → ∃ ad, pw = .pointer (some ad) ∧ ∀ j v, cs[j]? = some v → w.cell? (ad.add j) = some v)
    (h : W X (.ops all l :: k) ((d, .agg cs.toArray) :: F) L) : W X (.ops all (⟨some d, .load t x, ty, pos, af, none⟩ :: l) :: k) F L :=
  W_val hd (fun a w ha hw => by
    obtain ⟨ad, hp, hcell⟩ := hc w hw
    have hx' := ev_sound ha hx
    simp [execOp, hx', hp, Instr.loadAt, Instr.sureAddr, loadN hT ht hcell]) h
theorem box_cell {B : Nat} {w : World} {L : List Ast} (i : Nat) {b : Nat} {t : TypeId} {cs : List Value} (h : Hp B w L) (hi : L[i]? = some (box b t cs)) {o : Nat} : w.cell? ⟨b, o, none⟩ = cs[o]? := by
  obtain ⟨S, hS, _⟩ := h.nth i hi
  rw [cell_of_row w b o _ t (0, 0) (box_A.1 hS).1]
  simp
theorem W_load_box (i : Nat) (hT : TabOk X.P T) {all : Array Oper} {d : Nat} {t : TypeId} {x : Operand} {ty : TypeId} {pos : String} {af : Array Edge} {l : List Oper} {b o : Nat} {t' : TypeId} {cs : List Value} {v : Value}
    (hx : ev F x = some (.pointer (some ⟨b, o, none⟩))) (hi : L[i]? = some (box b t' cs)) (ht : oneC T t = true) (hd : Nat.blt d X.n = true) (hv : cs[o]? = some v)
    (h : W X (.ops all l :: k) ((d, v) :: F) L) : W X (.ops all (⟨some d, .load t x, ty, pos, af, none⟩ :: l) :: k) F L :=
  W_load hT hd ht hx (fun w hw => ⟨_, rfl, by rw [box_cell i hw.hp hi, hv]⟩) h
theorem W_load_boxN (i : Nat) (hT : TabOk X.P T) {all : Array Oper} {d : Nat} {t : TypeId} {x : Operand} {ty : TypeId} {pos : String} {af : Array Edge} {l : List Oper} {b o : Nat} {t' : TypeId} {cs ds : List Value}
    (hx : ev F x = some (.pointer (some ⟨b, o, none⟩))) (hi : L[i]? = some (box b t' cs)) (hds : (match tget T t with | some i => (cs.drop o).take i.ti.size | none => []) = ds) (ht : mulC T t ds.length = true) (hd : Nat.blt d X.n = true)
    (h : W X (.ops all l :: k) ((d, .agg ds.toArray) :: F) L) : W X (.ops all (⟨some d, .load t x, ty, pos, af, none⟩ :: l) :: k) F L :=
  W_loadN hT hd hx ht (fun w hw => ⟨_, rfl, fun j v hj => by
    rw [add_lit, box_cell i hw.hp hi]
    unfold mulC at ht
    split at ht
    · rename_i q hq
      rw [hq] at hds
      simp only at hds
      rw [← hds, List.getElem?_take] at hj
      split at hj
      · rw [List.getElem?_drop] at hj; exact hj
      · cases hj
    · cases ht⟩) h
/-- An element of a slice: its address, and what is there. -/
theorem W_index (hT : TabOk X.P T) {all : Array Oper} {d : Nat} {t : TypeId} {x ix : Operand} {ty : TypeId} {pos : String} {af : Array Edge} {l : List Oper} {A : Option Addr} {n c : Nat} {kk : IntKind} {i : Int} {sz : Nat}
    (hd : Nat.blt d X.n = true) (hx : ev F x = some (.slice A n c)) (hix : ev F ix = some (.int kk i))
    (ht : elsz T t = some sz)
    (h0 : 0 ≤ i) (h1 : i < n) (hA : ∀ w, St X.B X.w0 w L → A.isSome = true)
    (h : W X (.ops all l :: k) ((d, .pointer (A.map (·.add (i.toNat * sz)))) :: F) L) : W X (.ops all (⟨some d, .indexAddr t x ix, ty, pos, af, none⟩ :: l) :: k) F L :=
  W_val hd (fun a w ha hw => by
    have hs := hA w hw
    cases A with
    | none => simp at hs
    | some ad =>
      unfold elsz at ht
      split at ht
      · rename_i q hq
        split at ht
        · rename_i e hu
          have hu' := (hT.get hq).u; rw [hu] at hu'
          have hsz := fsize_sound hT ht w
          have hcond : 0 ≤ i ∧ i < (n : Int) := ⟨h0, h1⟩
          simp [execOp, ev_sound ha hx, ev_sound ha hix, Instr.indexAt, asIntOf, run_underlying hu', hsz, hcond]
        · cases ht
      · cases ht) h

/-! ### New variables, stores -/
def zeroL (T : Tab) (t : TypeId) : Option (List Value) := match tget T t with
  | some i => match i.ti.zero with | some z => some (vcells z) | none => none
  | none => none
theorem St.new {B : Nat} {w0 w : World} {L : List Ast} (h : St B w0 w L) (o : Obj) {a : Ast} (ha : a.A (w.alloc o) (fun b => b = w.heap.size)) : St B w0 (w.alloc o) (a :: L) :=
  ⟨h.below.trans ((Below.refl _ _).alloc h.le o), by have := h.le; simp; omega, by
    obtain ⟨S, hS, hB⟩ := h.hp
    refine ⟨_, ⟨_, S, ha, HpS.loc hS (fun b hb => Below.heap_alloc w o b (HpS.live hS hb)), fun b hb hb2 => ?_, fun _ => Iff.rfl⟩, fun b hb => ?_⟩
    · have := HpS.live hS hb2; omega
    · rcases hb with hb | hb
      · have := h.le; omega
      · exact hB b hb⟩
theorem St.newBox {B : Nat} {w0 w : World} {L : List Ast} (h : St B w0 w L) (cs : List Value) (t : TypeId) : St B w0 (w.alloc (.cells cs.toArray t)) (box w.heap.size t cs :: L) :=
  h.new _ (box_A.2 ⟨heap_alloc_new w _, fun _ => Iff.rfl⟩)
theorem W_alloc (hT : TabOk X.P T) {all : Array Oper} {d : Nat} {t : TypeId} {ty : TypeId} {pos : String} {af : Array Edge} {l : List Oper} {cs : List Value}
    (hd : Nat.blt d X.n = true) (hz : zeroL T t = some cs)
    (h : ∀ b, W X (.ops all l :: k) ((d, .pointer (some ⟨b, 0, none⟩)) :: F) (box b t cs :: L)) : W X (.ops all (⟨some d, .alloc t, ty, pos, af, none⟩ :: l) :: k) F L :=
  W_valw hd (fun a w ha hw => by
    unfold zeroL at hz
    split at hz
    · rename_i i hi
      split at hz
      · rename_i z hz'
        injection hz with hz
        subst hz
        refine ⟨_, _, _, ?_, hw.newBox (vcells z) t, h _⟩
        simp [execOp, Instr.alloc, zeroValue, typeInfo, (hT.get hi).ti, hz', newVar, newRow, vcells_eq]
      · cases hz
    · cases hz)
theorem W_box {all : Array Oper} {d : Nat} {t : TypeId} {x : Operand} {ty : TypeId} {pos : String} {af : Array Edge} {l : List Oper} {v : Value} {cs : List Value}
    (hd : Nat.blt d X.n = true) (hx : ev F x = some v) (hcs : vcells v = cs)
    (h : ∀ b, W X (.ops all l :: k) ((d, .pointer (some ⟨b, 0, none⟩)) :: F) (box b t cs :: L)) : W X (.ops all (⟨some d, .box t x, ty, pos, af, none⟩ :: l) :: k) F L :=
  W_valw hd (fun a w ha hw => by
    subst hcs
    refine ⟨_, _, _, ?_, hw.newBox (vcells v) t, h _⟩
    simp [execOp, Instr.box, ev_sound ha hx, newVar, newRow, vcells_eq])

theorem storeCells_run (P : Program) (g e : Nat) : ∀ (vs : List Value) (o : Nat) (cs : List Value) (w : World), w.heap[g]? = some (.cells cs.toArray e (0, 0)) → o + vs.length ≤ cs.length → (∀ u ∈ vs, u.oneCell' = true) → ∀ (a : Addr) (i : Nat), a.add i = ⟨g, o, none⟩ → a.block = g →
    ∃ w', (storeCells a vs i).run P w = .ok () w' ∧ w'.heap[g]? = some (.cells (putL cs o vs).toArray e (0, 0)) ∧ w'.heap.size = w.heap.size ∧ (∀ b, b ≠ g → w'.heap[b]? = w.heap[b]?) ∧ w'.os = w.os ∧ w'.tape = w.tape ∧ w'.output = w.output := by
  intro vs
  induction vs with
  | nil => intro o cs w hg hl h1 a i ha hb; exact ⟨w, by simp [storeCells], by rw [putL_nil]; exact hg, rfl, fun _ _ => rfl, rfl, rfl, rfl⟩
  | cons v vs ih =>
    intro o cs w hg hl h1 a i ha hb
    simp only [List.length_cons] at hl
    have hc : w.cell? ⟨g, o, none⟩ = some (cs[o]'(by omega)) := by
      rw [cell_of_row w g o _ e (0, 0) hg]; simp
    have hf : w.frozen? ⟨g, o, none⟩ = false := frozen_of_row w g o _ e hg
    have hg2 : (w.setCell ⟨g, o, none⟩ v).heap[g]? = some (.cells (cs.set o v).toArray e (0, 0)) := by
      rw [heap_setCell_same w g o _ e v hg]; simp
    have ha2 : a.add (i + 1) = ⟨g, o + 1, none⟩ := by rw [← add_add, ha, Eng.add_lit]
    obtain ⟨w', h2, h3, h4, h5, h6, h7, h8⟩ := ih (o + 1) (cs.set o v) _ hg2 (by simp; omega) (fun u hu => h1 u (List.mem_cons_of_mem _ hu)) a (i + 1) ha2 hb
    refine ⟨w', ?_, ?_, ?_, fun b hb' => ?_, by rw [h6]; rfl, by rw [h7]; rfl, by rw [h8]; rfl⟩
    · simp only [storeCells, Sem.run_bind, ha, run_store _ _ _ _ _ (h1 v List.mem_cons_self), hc, hf]
      simpa using h2
    · rw [h3]
      congr 3
      apply List.ext_getElem?
      intro j
      rw [putL_get _ _ _ _ (by simp; omega), putL_get _ _ _ _ (by simp; omega)]
      simp only [List.length_cons, List.getElem?_set]
      by_cases hj : j = o
      · subst hj
        rw [if_neg (by omega), if_pos (by omega), if_pos (by omega)]
        simp
      · by_cases hj2 : o + 1 ≤ j ∧ j < o + 1 + vs.length
        · rw [if_pos hj2, if_pos (by omega), show j - o = (j - (o + 1)) + 1 by omega]
          simp
        · rw [if_neg hj2, if_neg (by omega), if_neg (by omega)]
    · rw [h4]; simp
    · rw [h5 b hb']; exact heap_setCell_other w _ b v hb'
theorem below_of {w w' : World} {B g : Nat} (h1 : w'.heap.size = w.heap.size) (h2 : ∀ b, b ≠ g → w'.heap[b]? = w.heap[b]?) (h3 : w'.os = w.os) (h4 : w'.tape = w.tape) (h5 : w'.output = w.output) (hB : B ≤ g) : Below B w w' :=
  ⟨h3, h4, h5, Nat.le_of_eq h1.symm, fun k hk => h2 k (by omega)⟩
/-- A store into a variable of one's own. -/
def setL : List Ast → Nat → Ast → List Ast
  | [], _, _ => []
  | _ :: L, 0, a => a :: L
  | c :: L, i + 1, a => c :: setL L i a
theorem Ent.setL_pick : ∀ (L : List Ast) (i : Nat) (a : Ast), L[i]? = some a → ∃ M, Ent L (a :: M) ∧ ∀ c, Ent (c :: M) (setL L i c)
  | [], i, _, h => by simp at h
  | x :: L, 0, a, h => by
    have : x = a := by simpa using h
    subst this
    exact ⟨L, Ent.refl _, fun c => Ent.refl _⟩
  | x :: L, i + 1, a, h => by
    obtain ⟨M, h1, h2⟩ := Ent.setL_pick L i a (by simpa using h)
    exact ⟨x :: M, (Ent.cons x h1).trans (Ent.swap _ _ _), fun c => (Ent.swap _ _ _).trans (Ent.cons x (h2 c))⟩
/-- The i-th assertion changed, in its own blocks and new ones. -/
theorem St.upd {B : Nat} {w0 w : World} {L : List Ast} (h : St B w0 w L) (i : Nat) {a : Ast} (hi : L[i]? = some a) :
    ∃ S1, a.A w S1 ∧ (∀ b, S1 b → B ≤ b ∧ b < w.heap.size) ∧ ∀ w' c S1', Ast.A c w' S1' → (∀ b, S1' b → S1 b ∨ w.heap.size ≤ b) → Below B w w' →
      (∀ b, b < w.heap.size → ¬ S1 b → w'.heap[b]? = w.heap[b]?) → St B w0 w' (setL L i c) := by
  obtain ⟨M, e1, e2⟩ := Ent.setL_pick L i a hi
  obtain ⟨S1, h1, h2, h3⟩ := (h.hp.ent e1).upd h.le
  exact ⟨S1, h1, h2, fun w' c S1' hc hs hb hm => ⟨h.below.trans hb, Nat.le_trans h.le hb.size, (h3 w' c S1' hc hs hm).ent (e2 c)⟩⟩
def allOne (vs : List Value) : Bool := vs.all Value.oneCell'
theorem W_store_box (i : Nat) (hT : TabOk X.P T) {all : Array Oper} {t : TypeId} {x y : Operand} {ty : TypeId} {pos : String} {af : Array Edge} {l : List Oper} {b o : Nat} {t' : TypeId} {cs : List Value} {v : Value}
    (hx : ev F x = some (.pointer (some ⟨b, o, none⟩))) (hi : L[i]? = some (box b t' cs)) (hy : ev F y = some v) (hs : fsize T t = some (vcells v).length) (hfit : Nat.ble (o + (vcells v).length) cs.length = true)
    (h1 : allOne (vcells v) = true)
    (h : W X (.ops all l :: k) F (setL L i (box b t' (putL cs o (vcells v))))) : W X (.ops all (⟨none, .store t x y, ty, pos, af, none⟩ :: l) :: k) F L :=
  W_skipw (fun a w ha hw => by
    obtain ⟨S1, g1, g2, g3⟩ := hw.upd i hi
    obtain ⟨g4, g5⟩ := box_A.1 g1
    have hfit' : o + (vcells v).length ≤ cs.length := by simpa using hfit
    obtain ⟨w', r1, r2, r3, r4, r5, r6, r7⟩ := storeCells_run X.P b t' (vcells v) o cs w g4 hfit' (by simpa [allOne] using h1) ⟨b, o, none⟩ 0 (by rw [Eng.add_lit]; rfl) rfl
    have hB : X.B ≤ b := (g2 b ((g5 b).2 rfl)).1
    refine ⟨w', _, ?_, g3 w' (box b t' (putL cs o (vcells v))) S1 (box_A.2 ⟨r2, g5⟩) (fun _ hb => .inl hb) (below_of r3 r4 r5 r6 r7 hB) (fun c hc hn => r4 c (fun e => hn ((g5 c).2 e))), h⟩
    simp [execOp, ev_sound ha hx, ev_sound ha hy, Instr.storeAt, Instr.sureAddr, storeVar, vcells_eq, fsize_sound hT hs, r1])
end
end Eng
end Go.Proofs.Ytdfibmbedjpcgaa
