/- The engine, eighth part: calls of function values; a store into a row that is owned. Generic over the program but for the numbers of the types int32 (21) and []int32 (48). -/
import Derived.Test.YtdfibmbedjpcgaaEngQ
set_option linter.unusedVariables false
set_option linter.unusedSimpArgs false
namespace Go.Proofs.Ytdfibmbedjpcgaa
open Go Go.RowKit
namespace Eng
variable {X : Cx} {k : List It} {F : Fr} {L : List Ast} {T : Tab}
theorem W_callFG {all : Array Oper} {d : Nat} {x : Operand} {f : FuncId} {first caps : Array Value} {args : Array Operand} {tys : Array TypeId} {ty : TypeId} {pos : String} {af : Array Edge} {l : List Oper} {vs : List Value}
    (hd : Nat.blt d X.n = true) (hx : ev F x = some (.func (.func f) first caps)) (hcall : ∀ args w, (callFunc f args).run X.P w = .ok (.enter f args) w) (hargs : evs F args.toList = some vs)
    (hc : ∀ w, St X.B X.w0 w L → Calls X.P f (first.toList ++ vs ++ caps.toList).toArray w fun e w' => ∃ v M, e = .returned v ∧ St X.B X.w0 w' M ∧ W X (.ops all l :: k) ((d, v) :: F) M) :
    W X (.ops all (⟨some d, .call { callee := .value x, args := args, argTypes := tys }, ty, pos, af, none⟩ :: l) :: k) F L := fun a w ha hw => by
  refine wpList_plain rfl fun K hK => ?_
  have hm : args.map a.eval = vs.toArray := by
    have := evs_sound ha hargs
    rw [← this, ← Array.toList_map]
  have hxv := ev_sound ha hx
  have hA : first ++ vs.toArray ++ caps = (first.toList ++ vs ++ caps.toList).toArray := by
    apply Array.ext'; simp
  have hrun : (execOp a.eval ⟨some d, .call { callee := .value x, args := args, argTypes := tys }, ty, pos, af, none⟩).run X.P w = .ok (.enter f (first.toList ++ vs ++ caps.toList).toArray) w := by
    rw [← hA]
    simp [execOp, resolve, Deferred.ofValue, invoke, hxv, hm, hcall]
  unfold Oper.wp
  rw [hrun, Oper.upon_enter]
  refine (hc w hw).mono fun e w' ⟨v, M, he, hs, hW⟩ => ?_
  subst he
  exact hK _ _ (hW _ w' (ha.put d hd v) hs)
theorem W_callF {all : Array Oper} {d : Nat} {x : Operand} {f : FuncId} {first caps : Array Value} {args : Array Operand} {tys : Array TypeId} {ty : TypeId} {pos : String} {af : Array Edge} {l : List Oper} {vs us : List Value}
    (p : Value → List Ast → Prop)
    (hd : Nat.blt d X.n = true) (hx : ev F x = some (.func (.func f) first caps)) (hcall : ∀ args w, (callFunc f args).run X.P w = .ok (.enter f args) w) (hargs : evs F args.toList = some vs) (hus : first.toList ++ vs ++ caps.toList = us)
    (hc : ∀ w, St X.B X.w0 w L → Fresh X.P f us w p)
    (h : ∀ v M, p v M → W X (.ops all l :: k) ((d, v) :: F) (M ++ L)) :
    W X (.ops all (⟨some d, .call { callee := .value x, args := args, argTypes := tys }, ty, pos, af, none⟩ :: l) :: k) F L :=
  by
  subst hus
  exact W_callFG hd hx hcall hargs fun w hw => Calls.mono (hc w hw) fun _ _ ⟨v, M, he, hb, hM, hp⟩ => ⟨v, M ++ L, he, hw.add hb hM, h v M hp⟩
theorem W_callFV {all : Array Oper} {d : Nat} {x : Operand} {f : FuncId} {first caps : Array Value} {args : Array Operand} {tys : Array TypeId} {ty : TypeId} {pos : String} {af : Array Edge} {l : List Oper} {vs us : List Value} {v : Value}
    (hd : Nat.blt d X.n = true) (hx : ev F x = some (.func (.func f) first caps)) (hcall : ∀ args w, (callFunc f args).run X.P w = .ok (.enter f args) w) (hargs : evs F args.toList = some vs) (hus : first.toList ++ vs ++ caps.toList = us)
    (hc : ∀ w, St X.B X.w0 w L → Val X.P f us w v)
    (h : W X (.ops all l :: k) ((d, v) :: F) L) :
    W X (.ops all (⟨some d, .call { callee := .value x, args := args, argTypes := tys }, ty, pos, af, none⟩ :: l) :: k) F L :=
  W_callF (fun u M => u = v ∧ M = []) hd hx hcall hargs hus hc (by rintro _ _ ⟨rfl, rfl⟩; exact h)
/-! ### A row of owned rows at hand, and back -/
theorem rowsA_split (vs : List Value) (xss : List (List Int)) {r : Nat} {v : Value} {xs : List Int} (hl : vs.length = xss.length) (hv : vs[r]? = some v) (hx : xss[r]? = some xs) (L : List Ast) :
    Ent (rowsA vs xss :: L) (rowA v xs :: rowsA (vs.take r) (xss.take r) :: rowsA (vs.drop (r + 1)) (xss.drop (r + 1)) :: L) := by
  have hr := (List.getElem?_eq_some_iff.1 hv).1
  have e1 : vs = vs.take r ++ ([v] ++ vs.drop (r + 1)) := by
    have : vs.drop r = v :: vs.drop (r + 1) := by
      rw [List.drop_eq_getElem_cons hr]; congr 1; exact (List.getElem?_eq_some_iff.1 hv).2
    rw [List.singleton_append, ← this, List.take_append_drop]
  have e2 : xss = xss.take r ++ ([xs] ++ xss.drop (r + 1)) := by
    have hr2 := (List.getElem?_eq_some_iff.1 hx).1
    have : xss.drop r = xs :: xss.drop (r + 1) := by
      rw [List.drop_eq_getElem_cons hr2]; congr 1; exact (List.getElem?_eq_some_iff.1 hx).2
    rw [List.singleton_append, ← this, List.take_append_drop]
  conv => enter [1]; rw [e1, e2]
  refine (Ent.rowsA_split (by rw [List.length_take, List.length_take, hl]) L).trans ?_
  refine (Ent.cons _ (Ent.rowsA_split (by simp) L)).trans ?_
  refine (Ent.swap _ _ _).trans ?_
  refine Ent.head (M := [rowsA [v] [xs]]) (M' := [rowA v xs]) ?_ _
  exact Ent.seps_one _ _
theorem rowsA_join (vs : List Value) (xss : List (List Int)) {r : Nat} {v : Value} {xs : List Int} (hl : vs.length = xss.length) (hr : r < vs.length) (L : List Ast) :
    Ent (rowA v xs :: rowsA (vs.take r) (xss.take r) :: rowsA (vs.drop (r + 1)) (xss.drop (r + 1)) :: L) (rowsA (vs.set r v) (xss.set r xs) :: L) := by
  have e1 : vs.set r v = vs.take r ++ ([v] ++ vs.drop (r + 1)) := by rw [List.set_eq_take_append_cons_drop, if_pos hr]; rfl
  have e2 : xss.set r xs = xss.take r ++ ([xs] ++ xss.drop (r + 1)) := by rw [List.set_eq_take_append_cons_drop, if_pos (by omega)]; rfl
  rw [e1, e2]
  refine Ent.trans ?_ (Ent.rowsA_app (by rw [List.length_take, List.length_take, hl]) L)
  refine Ent.trans ?_ (Ent.cons _ (Ent.rowsA_app (by simp) L))
  refine (Ent.swap _ _ _).trans (Ent.cons _ ?_)
  exact Ent.head (M := [rowA v xs]) (M' := [rowsA [v] [xs]]) (Ent.one_seps _ _) _
theorem set_same {α : Type} {l : List α} {r : Nat} {v : α} (h : l[r]? = some v) : l.set r v = l := by
  apply List.ext_getElem?
  intro j
  rw [List.getElem?_set]
  split
  · rename_i e; subst e
    rw [if_pos (List.getElem?_eq_some_iff.1 h).1, h]
  · rfl
/-! ### append of a make: only how long it is matters -/
def intT (T : Tab) (t : TypeId) : Bool := match tget T t with | some i => (match i.u with | .int _ => true | _ => false) | none => false
theorem append_make {P : Program} {t ti e size bytes : Nat} {z : Value} {k0 : IntKind} (hS : SlT P t e size bytes z) (hti : P.underlying ti = some (.int k0)) (ty : TypeId) {w : World} {m : Nat} (hm : 0 < m) (hb : m * bytes ≤ 140737488355328) (h63 : m ≤ maxLen) :
    ∃ A2 c2 w' cs, (Builtin.append_ #[t, ti] ty #[.slice none 0 0, .int .i64 (m : Nat)]).run P w = .ok (.slice A2 m c2) w' ∧ ownR w' e size A2 m c2 cs ∧
      Below w.heap.size w w' ∧ (∃ g, A2 = some ⟨g, 0, none⟩ ∧ w.heap.size ≤ g) ∧ 0 < c2 := by
  obtain ⟨i, hi, hz, hsz, hby⟩ := hS.i
  subst hsz; subst hby
  have hwl : IntKind.i64.wrap (m : Int) = (m : Int) := IntWalk.i64_in _ (by unfold maxLen at h63; omega)
  have h1 : ¬ (m ≤ 0) := by omega
  have h0 : ¬ ((m : Int) < 0) := by omega
  have h63' : ¬ (9223372036854775807 < (m : Int)) := by unfold maxLen at h63; omega
  have h48 : Builtin.nextslicecap (0 + m) 0 * i.bytes ≤ 281474976710656 := growslice_fits (by omega) (by rw [Nat.zero_add]; exact hb)
  rw [Nat.zero_add] at h48
  have h48' : ¬ (281474976710656 < Builtin.nextslicecap m 0 * i.bytes) := by omega
  have hmb : ¬ (281474976710656 < (m : Int) * (i.bytes : Int)) := by
    have : ((m * i.bytes : Nat) : Int) = (m : Int) * (i.bytes : Int) := by push_cast; rfl
    omega
  have hms : ¬ (m * i.size = 0) := by
    intro h
    rcases Nat.mul_eq_zero.1 h with h | h
    · omega
    · have := hS.pos; omega
  have hm0 : ¬ (m = 0) := by omega
  have hms2 : ¬ (m = 0 ∨ i.size = 0) := fun h => hms (Nat.mul_eq_zero.2 h)
  have hfo : (Builtin.firstCells i.size 0 (.slice none 0 0)).run P w.drew = .ok #[] w.drew := run_firstCells_none w.drew i.size 0 0 0
  have hcap : m ≤ grownCap w m 0 e ∧ grownCap w m 0 e ≤ maxLen := by
    unfold grownCap maxLen
    simp only [Question.cut]
    unfold maxLen at h63
    have h2 : (w.tape w.drawn (.appendCap m 0 e)) % (2 ^ 63 - m) < 2 ^ 63 - m := Nat.mod_lt _ (by omega)
    omega
  have hrun : (Builtin.append_ #[t, ti] ty #[.slice none 0 0, .int .i64 (m : Nat)]).run P w =
      .ok (.slice (some ⟨w.heap.size, 0, none⟩) m (grownCap w m 0 e))
        (w.drew.alloc (.cells (Builtin.zeroCells z.cells m ++ Builtin.zeroCells z.cells (grownCap w m 0 e - m)) e)) := by
    simp [Builtin.append_, run_underlying hS.u, run_underlying hti, sizeOf, typeInfo, zeroValue, hi, hz, asInt, asIntOf, hwl, h0, hmb, h1, h63', h48', Question.forced, hfo, newRow, grownCap, hms, hms2, hm0]
  have hzs : z.cells.size = i.size := by rw [vcells_eq]; simpa using hS.zs
  refine ⟨_, _, _, (Builtin.zeroCells z.cells m).toList, hrun, .inr ⟨w.heap.size, _, rfl, heap_alloc_new w.drew _, hcap.1, hcap.2, ?_, ?_, ?_⟩, ?_, ⟨_, rfl, Nat.le_refl _⟩, by omega⟩
  · simp only [Array.size_append, size_zeroCells, hzs]
    rw [← Nat.add_mul]
    refine Nat.le_of_eq ?_
    congr 1
    omega
  · rw [Array.length_toList, size_zeroCells, hzs]
  · simp only [Array.toList_append]
    rw [List.take_append_of_le_length (by rw [Array.length_toList, size_zeroCells, hzs]; exact Nat.le_refl _), List.take_of_length_le (by rw [Array.length_toList, size_zeroCells, hzs]; exact Nat.le_refl _)]
  · exact (Below.refl _ _).drew.alloc (Nat.le_refl _) _
theorem W_append_make (hT : TabOk X.P T) {all : Array Oper} {d : Nat} {s x : Operand} {t ti ty : TypeId} {pos : String} {af : Array Edge} {l : List Oper} {m : Nat} {e size bytes : Nat} {z : Value}
    (hd : Nat.blt d X.n = true) (hs : ev F s = some (.slice none 0 0)) (hx : ev F x = some (.int .i64 (m : Nat))) (ht : slT T t = some (e, size, bytes, z)) (hti : intT T ti = true) (hm : 0 < m) (hb : m * bytes ≤ 140737488355328) (h63 : m ≤ maxLen)
    (h : ∀ A2 c2 cs, W X (.ops all l :: k) ((d, .slice A2 m c2) :: F) (own e size A2 m c2 cs :: L)) :
    W X (.ops all (⟨some d, .call { callee := .builtin .append, args := #[s, x], argTypes := #[t, ti] }, ty, pos, af, none⟩ :: l) :: k) F L :=
  W_valw hd (fun a w ha hw => by
    have hS := slT_sound hT ht
    unfold intT at hti
    split at hti
    · rename_i i hi
      split at hti
      · rename_i k0 hu
        have hu' := (hT.get hi).u; rw [hu] at hu'
        obtain ⟨A2, c2, w', cs, r1, r2, r3, ⟨g, r4, r5⟩, r6⟩ := append_make hS hu' ty (w := w) hm hb h63
        refine ⟨_, w', _, ?_, hw.add (M := [own e size A2 m c2 cs]) r3 ⟨fun x => x = g, ⟨fun x => x = g, fun _ => False, own_A.2 ⟨r2, fun x => ⟨fun hx => ⟨r6, by rw [r4, hx]; rfl⟩, fun hx => by rw [r4] at hx; exact (Option.some.inj hx.2).symm⟩⟩, fun _ h => h, fun _ _ h => h, fun b => by simp⟩, fun b hb => by rw [hb]; exact r5⟩, h A2 c2 cs⟩
        simp [execOp, resolve, invoke, builtin, ev_sound ha hs, ev_sound ha hx, r1]
      · cases hti
    · cases hti)
theorem rowsA_one {vs : List Value} {xss : List (List Int)} {w : World} {S : Nat → Prop} (h : (rowsA vs xss).A w S) (hl : vs.length = xss.length) : ∀ u ∈ vs, u.oneCell' = true := fun u hu => by
  obtain ⟨q, hq⟩ := List.getElem?_of_mem hu
  have hlt : q < vs.length := (List.getElem?_eq_some_iff.1 hq).1
  obtain ⟨S1, g⟩ := HpS.nth q (a := rowA vs[q] (xss[q]'(by omega))) (seps_A.1 (show (seps _).A w S from h)) (by rw [List.getElem?_zipWith, List.getElem?_eq_getElem hlt, List.getElem?_eq_getElem (by omega)])
  obtain ⟨B, c', e, g2⟩ := rowA_A.1 g
  rw [List.getElem?_eq_getElem hlt] at hq
  rw [← Option.some.inj hq, e]; rfl
theorem W_rowsOne (i : Nat) {vs : List Value} {xss : List (List Int)} (hi : L[i]? = some (rowsA vs xss)) (hl : vs.length = xss.length) (h : (∀ u ∈ vs, u.oneCell' = true) → W X k F L) : W X k F L := fun a w ha hw => by
  obtain ⟨S, hS, _⟩ := hw.hp.nth i hi
  exact h (rowsA_one hS hl) a w ha hw
/-! ### Assertions chosen, in any order -/
def takeOut : Nat → List Ast → Option (Ast × List Ast)
  | _, [] => none
  | 0, a :: L => some (a, L)
  | i + 1, a :: L => match takeOut i L with
    | some (c, R) => some (c, a :: R)
    | none => none
theorem Ent.takeOut : ∀ (i : Nat) (L : List Ast) {a : Ast} {R : List Ast}, takeOut i L = some (a, R) → Ent L (a :: R)
  | i, [], _, _, h => by cases i <;> simp [Eng.takeOut] at h
  | 0, a :: L, _, _, h => by
    simp only [Eng.takeOut, Option.some.injEq, Prod.mk.injEq] at h
    obtain ⟨rfl, rfl⟩ := h
    exact Ent.refl _
  | i + 1, a :: L, c, R, h => by
    simp only [Eng.takeOut] at h
    split at h
    · rename_i c' R' h'
      simp only [Option.some.injEq, Prod.mk.injEq] at h
      obtain ⟨rfl, rfl⟩ := h
      exact (Ent.cons a (Ent.takeOut i L h')).trans (Ent.swap _ _ _)
    · cases h
def selL : List Nat → List Ast → Option (List Ast)
  | [], _ => some []
  | i :: is, L => match takeOut i L with
    | some (a, R) => match selL is R with
      | some M => some (a :: M)
      | none => none
    | none => none
theorem Ent.sel : ∀ (is : List Nat) (L : List Ast) {M : List Ast}, selL is L = some M → Ent L M
  | [], L, M, h => by
    simp only [selL, Option.some.injEq] at h
    subst h
    exact Ent.nil L
  | i :: is, L, M, h => by
    simp only [selL] at h
    split at h
    · rename_i a R h1
      split at h
      · rename_i M' h2
        simp only [Option.some.injEq] at h
        subst h
        exact (Ent.takeOut i L h1).trans (Ent.cons a (Ent.sel is R h2))
      · cases h
    · cases h
theorem cutA_zero (A : Option Addr) (m sz : Nat) : cutA A 0 m sz = A := by
  unfold cutA
  split
  · rfl
  · cases A with
    | none => rfl
    | some a => simp [Addr.add]
end Eng
end Go.Proofs.Ytdfibmbedjpcgaa
