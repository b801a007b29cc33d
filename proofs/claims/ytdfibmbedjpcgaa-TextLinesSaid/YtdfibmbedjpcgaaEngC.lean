/- The engine, eighth part: calls of function values; a store into a row that is owned. Generic over the program but for the numbers of the types int32 (21) and []int32 (48). -/
import Derived.Test.YtdfibmbedjpcgaaEngQ
set_option linter.unusedVariables false
set_option linter.unusedSimpArgs false
namespace Go.Proofs.Ytdfibmbedjpcgaa
open Go Go.RowKit
namespace Eng
variable {X : Cx} {k : List It} {F : Fr} {L : List Ast} {T : Tab}
theorem W_callFG {all : Array Oper} {d : Nat} {x : Operand} {f : FuncId} {first caps : Array Value} {args : Array Operand} {tys : Array TypeId} {ty : TypeId} {pos : String} {af : Array Edge} {l : List Oper} {vs : List Value}
    (hd : Nat.blt d X.n = true) (hx : ev F x = some (.func (.func f) first caps)) (hcall : ∀ args w, (callFunc f args).run X.P w = .ok (.enter f args) w) (hargs : evs F args.toList = some vs)
    (hc : ∀ w, St X.B X.w0 w L → Calls X.P f (first.toList ++ vs ++ caps.toList).toArray w fun e w' => ∃ v M, e = .returned v ∧ St X.B X.w0 w' M ∧ W X (.ops all l :: k) ((d, v) :: F) M) :
    W X (.ops all (⟨some d, .call { callee := .value x, args := args, argTypes := tys }, ty, pos, af, none⟩ :: l) :: k) F L := fun a w ha hw => by
  refine wpList_plain rfl fun K hK => ?_
  have hm : args.map a.eval = vs.toArray := by
    have := evs_sound ha hargs
    rw [← this, ← Array.toList_map]
  have hxv := ev_sound ha hx
  have hA : first ++ vs.toArray ++ caps = (first.toList ++ vs ++ caps.toList).toArray := by
    apply Array.ext'; simp
  have hrun : (execOp a.eval ⟨some d, .call { callee := .value x, args := args, argTypes := tys }, ty, pos, af, none⟩).run X.P w = .ok (.enter f (first.toList ++ vs ++ caps.toList).toArray) w := by
    rw [← hA]
    simp [execOp, resolve, Deferred.ofValue, invoke, hxv, hm, hcall]
  unfold Oper.wp
  rw [hrun, Oper.upon_enter]
  refine (hc w hw).mono fun e w' ⟨v, M, he, hs, hW⟩ => ?_
  subst he
  exact hK _ _ (hW _ w' (ha.put d hd v) hs)
theorem W_callF {all : Array Oper} {d : Nat} {x : Operand} {f : FuncId} {first caps : Array Value} {args : Array Operand} {tys : Array TypeId} {ty : TypeId} {pos : String} {af : Array Edge} {l : List Oper} {vs : List Value}
    (p : Value → List Ast → Prop)
    (hd : Nat.blt d X.n = true) (hx : ev F x = some (.func (.func f) first caps)) (hcall : ∀ args w, (callFunc f args).run X.P w = .ok (.enter f args) w) (hargs : evs F args.toList = some vs)
    (hc : ∀ w, St X.B X.w0 w L → Fresh X.P f (first.toList ++ vs ++ caps.toList) w p)
    (h : ∀ v M, p v M → W X (.ops all l :: k) ((d, v) :: F) (M ++ L)) :
    W X (.ops all (⟨some d, .call { callee := .value x, args := args, argTypes := tys }, ty, pos, af, none⟩ :: l) :: k) F L :=
  W_callFG hd hx hcall hargs fun w hw => Calls.mono (hc w hw) fun _ _ ⟨v, M, he, hb, hM, hp⟩ => ⟨v, M ++ L, he, hw.add hb hM, h v M hp⟩
theorem W_callFV {all : Array Oper} {d : Nat} {x : Operand} {f : FuncId} {first caps : Array Value} {args : Array Operand} {tys : Array TypeId} {ty : TypeId} {pos : String} {af : Array Edge} {l : List Oper} {vs : List Value} {v : Value}
    (hd : Nat.blt d X.n = true) (hx : ev F x = some (.func (.func f) first caps)) (hcall : ∀ args w, (callFunc f args).run X.P w = .ok (.enter f args) w) (hargs : evs F args.toList = some vs)
    (hc : ∀ w, St X.B X.w0 w L → Val X.P f (first.toList ++ vs ++ caps.toList) w v)
    (h : W X (.ops all l :: k) ((d, v) :: F) L) :
    W X (.ops all (⟨some d, .call { callee := .value x, args := args, argTypes := tys }, ty, pos, af, none⟩ :: l) :: k) F L :=
  W_callF (fun u M => u = v ∧ M = []) hd hx hcall hargs hc (by rintro _ _ ⟨rfl, rfl⟩; exact h)
/-! ### A row of owned rows at hand, and back -/
theorem rowsA_split (vs : List Value) (xss : List (List Int)) {r : Nat} {v : Value} {xs : List Int} (hl : vs.length = xss.length) (hv : vs[r]? = some v) (hx : xss[r]? = some xs) (L : List Ast) :
    Ent (rowsA vs xss :: L) (rowA v xs :: rowsA (vs.take r) (xss.take r) :: rowsA (vs.drop (r + 1)) (xss.drop (r + 1)) :: L) := by
  have hr := (List.getElem?_eq_some_iff.1 hv).1
  have e1 : vs = vs.take r ++ ([v] ++ vs.drop (r + 1)) := by
    have : vs.drop r = v :: vs.drop (r + 1) := by
      rw [List.drop_eq_getElem_cons hr]; congr 1; exact (List.getElem?_eq_some_iff.1 hv).2
    rw [List.singleton_append, ← this, List.take_append_drop]
  have e2 : xss = xss.take r ++ ([xs] ++ xss.drop (r + 1)) := by
    have hr2 := (List.getElem?_eq_some_iff.1 hx).1
    have : xss.drop r = xs :: xss.drop (r + 1) := by
      rw [List.drop_eq_getElem_cons hr2]; congr 1; exact (List.getElem?_eq_some_iff.1 hx).2
    rw [List.singleton_append, ← this, List.take_append_drop]
  conv => enter [1]; rw [e1, e2]
  refine (Ent.rowsA_split (by rw [List.length_take, List.length_take, hl]) L).trans ?_
  refine (Ent.cons _ (Ent.rowsA_split (by simp) L)).trans ?_
  refine (Ent.swap _ _ _).trans ?_
  refine Ent.head (M := [rowsA [v] [xs]]) (M' := [rowA v xs]) ?_ _
  exact Ent.seps_one _ _
theorem rowsA_join (vs : List Value) (xss : List (List Int)) {r : Nat} {v : Value} {xs : List Int} (hl : vs.length = xss.length) (hr : r < vs.length) (L : List Ast) :
    Ent (rowA v xs :: rowsA (vs.take r) (xss.take r) :: rowsA (vs.drop (r + 1)) (xss.drop (r + 1)) :: L) (rowsA (vs.set r v) (xss.set r xs) :: L) := by
  have e1 : vs.set r v = vs.take r ++ ([v] ++ vs.drop (r + 1)) := by rw [List.set_eq_take_append_cons_drop, if_pos hr]; rfl
  have e2 : xss.set r xs = xss.take r ++ ([xs] ++ xss.drop (r + 1)) := by rw [List.set_eq_take_append_cons_drop, if_pos (by omega)]; rfl
  rw [e1, e2]
  refine Ent.trans ?_ (Ent.rowsA_app (by rw [List.length_take, List.length_take, hl]) L)
  refine Ent.trans ?_ (Ent.cons _ (Ent.rowsA_app (by simp) L))
  refine (Ent.swap _ _ _).trans (Ent.cons _ ?_)
  exact Ent.head (M := [rowA v xs]) (M' := [rowsA [v] [xs]]) (Ent.one_seps _ _) _
theorem set_same {α : Type} {l : List α} {r : Nat} {v : α} (h : l[r]? = some v) : l.set r v = l := by
  apply List.ext_getElem?
  intro j
  rw [List.getElem?_set]
  split
  · rename_i e; subst e
    rw [if_pos (List.getElem?_eq_some_iff.1 h).1, h]
  · rfl
end Eng
end Go.Proofs.Ytdfibmbedjpcgaa
