/- The engine, sixth part: how a function ends and what it hands back; contracts. Generic over the program. -/
import Derived.Test.YtdfibmbedjpcgaaEngD
set_option linter.unusedVariables false
set_option linter.unusedSimpArgs false
namespace Go.Proofs.Ytdfibmbedjpcgaa
open Go Go.RowKit
namespace Eng
variable {X : Cx} {k : List It} {F : Fr} {L : List Ast} {T : Tab}

def rvOk (X : Cx) (F : Fr) (L : List Ast) : ResultVar → Value → Prop
  | .tmp t, v => fget F t = some v
  | .cell a t, v => ∃ pw, fget F a = some pw ∧ ∀ w, St X.B X.w0 w L → ∃ ad, pw = .pointer (some ad) ∧ (loadVar t ad).run X.P w = .ok v w
def rvsOk (X : Cx) (F : Fr) (L : List Ast) : List ResultVar → List Value → Prop
  | [], [] => True
  | r :: rs, v :: vs => rvOk X F L r v ∧ rvsOk X F L rs vs
  | _, _ => False
def mkR : List Value → Value
  | [v] => v
  | vs => .tuple vs.toArray
def resF (tmps : Array Value) : ResultVar → Sem Value
  | .tmp t => pure (tmps.getD t undef)
  | .cell a t => do loadVar t (← asAddr (tmps.getD a undef))
theorem asAddr_run (P : Program) (w : World) (ad : Addr) : (asAddr (.pointer (some ad))).run P w = .ok ad w := rfl
theorem rvs_run {a : Act} {w : World} (ha : Knows X.n a F) (hw : St X.B X.w0 w L) : ∀ {rs : List ResultVar} {vs : List Value}, rvsOk X F L rs vs →
    (rs.mapM (resF a.tmps)).run X.P w = .ok vs w
  | [], [], _ => by simp
  | [], _ :: _, h => h.elim
  | _ :: _, [], h => h.elim
  | r :: rs, v :: vs, ⟨h1, h2⟩ => by
    have ih := rvs_run ha hw h2
    rw [List.mapM_cons]
    have h0 : (resF a.tmps r).run X.P w = .ok v w := by
      cases r with
      | tmp t =>
        have := ha.at_ t v h1
        simp only [resF, Sem.run_pure, this]
      | cell c t =>
        obtain ⟨pw, hp, hc⟩ := h1
        obtain ⟨ad, rfl, hl⟩ := hc w hw
        have := ha.at_ c _ hp
        simp only [resF, Sem.run_bind, Result.andThen_ok, this, asAddr_run, hl]
    simp only [Sem.run_bind, Sem.run_pure, Result.andThen_ok, h0, ih]
theorem results_run {a : Act} {w : World} (ha : Knows X.n a F) (hw : St X.B X.w0 w L) {fn : Func} {vs : List Value} (h : rvsOk X F L fn.results.toList vs) : (results fn a.tmps).run X.P w = .ok (mkR vs) w := by
  have e : results fn a.tmps = (do let us ← fn.results.mapM (resF a.tmps); pure (if h : us.size = 1 then us[0] else .tuple us)) := by
    unfold results
    congr 1
  rw [e]
  simp only [Sem.run_bind]
  rw [Array.mapM_eq_mapM_toList, Sem.run_map, rvs_run ha hw h]
  simp only [Result.andThen_ok, Sem.run_pure]
  congr 1
  match vs with
  | [] => rfl
  | [v] => rfl
  | v :: u :: r => simp [mkR]
theorem rv_tmp {t : Nat} {v : Value} (h : fget F t = some v) : rvOk X F L (.tmp t) v := h
theorem rv_box (i : Nat) (hT : TabOk X.P T) {a : Nat} {t t' : TypeId} {b : Nat} {cs : List Value} (hp : fget F a = some (.pointer (some ⟨b, 0, none⟩))) (hi : L[i]? = some (box b t' cs)) (ht : mulC T t cs.length = true) : rvOk X F L (.cell a t) (.agg cs.toArray) :=
  ⟨_, hp, fun w hw => ⟨_, rfl, loadN hT ht (fun j v hj => by rw [add_lit, Nat.zero_add, box_cell i hw.hp hi]; exact hj)⟩⟩
theorem rv_box1 (i : Nat) (hT : TabOk X.P T) {a : Nat} {t t' : TypeId} {b : Nat} {v : Value} (hp : fget F a = some (.pointer (some ⟨b, 0, none⟩))) (hi : L[i]? = some (box b t' [v])) (ht : oneC T t = true) : rvOk X F L (.cell a t) v :=
  ⟨_, hp, fun w hw => ⟨_, rfl, load1 hT ht (by rw [box_cell i hw.hp hi]; rfl)⟩⟩

/-- The context of a function's walk that is held to R at its return. -/
def cx (P : Program) (fn : Func) (n B : Nat) (w0 : World) (R : Ending → World → Prop) : Cx := ⟨P, n, B, w0, fun a w => bodyPost P fn R .ret a w⟩
theorem W_retR {P : Program} {fn : Func} {n B : Nat} {w0 : World} {R : Ending → World → Prop} {vs : List Value} (hv : rvsOk (cx P fn n B w0 R) F L fn.results.toList vs)
    (h : ∀ w, St B w0 w L → R (.returned (mkR vs)) w) : W (cx P fn n B w0 R) (.code .ret :: k) F L :=
  W_ret fun a w ha hw => ⟨ha.defers, mkR vs, results_run (X := cx P fn n B w0 R) ha hw hv, h w hw⟩
theorem W_endR {P : Program} {fn : Func} {n B : Nat} {w0 : World} {R : Ending → World → Prop} {vs : List Value} (hv : rvsOk (cx P fn n B w0 R) F L fn.results.toList vs)
    (h : ∀ w, St B w0 w L → R (.returned (mkR vs)) w) : W (cx P fn n B w0 R) [] F L :=
  W_end fun a w ha hw => ⟨ha.defers, mkR vs, results_run (X := cx P fn n B w0 R) ha hw hv, h w hw⟩

/-- What a contract of kind Fresh asks at the return. -/
def FR (w0 : World) (p : Value → List Ast → Prop) : Ending → World → Prop := fun e w' => ∃ v M, e = .returned v ∧ Below w0.heap.size w0 w' ∧ Hp w0.heap.size w' M ∧ p v M
theorem FR_ret {w0 w : World} {p : Value → List Ast → Prop} {v : Value} {M : List Ast} (hw : St w0.heap.size w0 w L) (e : Ent L M) (hp : p v M) : FR w0 p (.returned v) w := ⟨v, M, rfl, hw.below, hw.hp.ent e, hp⟩
theorem W_retF {P : Program} {fn : Func} {n : Nat} {w0 : World} {p : Value → List Ast → Prop} {vs : List Value} {M : List Ast} (hv : rvsOk (cx P fn n w0.heap.size w0 (FR w0 p)) F L fn.results.toList vs) (e : Ent L M) (hp : p (mkR vs) M) :
    W (cx P fn n w0.heap.size w0 (FR w0 p)) (.code .ret :: k) F L := W_retR hv fun _ hw => FR_ret hw e hp
theorem W_endF {P : Program} {fn : Func} {n : Nat} {w0 : World} {p : Value → List Ast → Prop} {vs : List Value} {M : List Ast} (hv : rvsOk (cx P fn n w0.heap.size w0 (FR w0 p)) F L fn.results.toList vs) (e : Ent L M) (hp : p (mkR vs) M) :
    W (cx P fn n w0.heap.size w0 (FR w0 p)) [] F L := W_endR hv fun _ hw => FR_ret hw e hp
theorem enterF {P : Program} {f : FuncId} {fn : Func} {c : Code} {args : List Value} {w0 : World} {p : Value → List Ast → Prop} {n : Nat} {F : Fr}
    (hf : P.funcs[f]? = some fn) (hb : fn.body = some c) (hn : fn.ntmps = n) (hle : Nat.ble args.length n = true) (hF : (List.range args.length).zip args = F)
    (h : W (cx P fn n w0.heap.size w0 (FR w0 p)) [.code c] F []) : Fresh P f args w0 p :=
  enter hf hb hn hle hF (Nat.le_refl _) (Hp.nil _ _) h
/-- A contract of a function that hands back a value and leaves nothing. -/
abbrev Val (P : Program) (f : FuncId) (vs : List Value) (w : World) (v : Value) : Prop := Fresh P f vs w (fun u M => u = v ∧ M = [])
theorem Fresh.mono {P : Program} {f : FuncId} {vs : List Value} {w : World} {p q : Value → List Ast → Prop} (h : Fresh P f vs w p) (hq : ∀ v M, p v M → q v M) : Fresh P f vs w q :=
  Calls.mono h fun _ _ ⟨v, M, he, hb, hM, hp⟩ => ⟨v, M, he, hb, hM, hq v M hp⟩
theorem W_callV {all : Array Oper} {d : Nat} {f : FuncId} {args : Array Operand} {tys : Array TypeId} {ty : TypeId} {pos : String} {af : Array Edge} {l : List Oper} {vs : List Value} {v : Value}
    (hd : Nat.blt d X.n = true) (hcall : ∀ args w, (callFunc f args).run X.P w = .ok (.enter f args) w) (hargs : evs F args.toList = some vs)
    (hc : ∀ w, St X.B X.w0 w L → Val X.P f vs w v)
    (h : W X (.ops all l :: k) ((d, v) :: F) L) :
    W X (.ops all (⟨some d, .call { callee := .value (.func f), args := args, argTypes := tys }, ty, pos, af, none⟩ :: l) :: k) F L :=
  W_call _ hd hcall hargs hc (by rintro _ _ ⟨rfl, rfl⟩; exact h)

/-! ### Lists of numbers in memory -/
def i32s (xs : List Int) : List Value := xs.map (.int .i32)
def i64s (xs : List Int) : List Value := xs.map (.int .i64)
theorem i32s_length (xs : List Int) : (i32s xs).length = xs.length := by simp [i32s]
theorem i64s_length (xs : List Int) : (i64s xs).length = xs.length := by simp [i64s]
def rd (xs : List Int) (i : Int) : Int := xs.getD i.toNat 0
theorem rd_get {xs : List Int} {i : Int} (h0 : 0 ≤ i) (h1 : i < xs.length) : xs[i.toNat]? = some (rd xs i) := by
  unfold rd
  rw [List.getD_eq_getElem?_getD, List.getElem?_eq_getElem (by omega)]
  rfl
theorem i32s_get {xs : List Int} {i : Int} (h0 : 0 ≤ i) (h1 : i < xs.length) : (i32s xs)[i.toNat]? = some (.int .i32 (rd xs i)) := by
  simp [i32s, rd_get h0 h1]
theorem i64s_get {xs : List Int} {i : Int} (h0 : 0 ≤ i) (h1 : i < xs.length) : (i64s xs)[i.toNat]? = some (.int .i64 (rd xs i)) := by
  simp [i64s, rd_get h0 h1]
theorem Cells.isSome {w : World} {A : Option Addr} {cs : List Value} (h : Cells w A cs) (hl : 0 < cs.length) : A.isSome = true := by
  obtain ⟨a, ha, _⟩ := h 0 _ (List.getElem?_eq_getElem hl)
  rw [ha]; rfl
/-- An element's cell, in the spelling of a load behind an index. -/
theorem Cells.elem {w : World} {A : Option Addr} {cs : List Value} (h : Cells w A cs) {j : Nat} {v : Value} (hv : cs[j]? = some v) : ∃ ad, Value.pointer (A.map (·.add j)) = .pointer (some ad) ∧ w.cell? ad = some v := by
  obtain ⟨a, ha, hc⟩ := h j v hv
  exact ⟨_, by rw [ha]; rfl, hc⟩
theorem Cells.elem1 {w : World} {A : Option Addr} {cs : List Value} (h : Cells w A cs) {j : Nat} {v : Value} (hv : cs[j]? = some v) : ∃ ad, Value.pointer (A.map (·.add (j * 1))) = .pointer (some ad) ∧ w.cell? ad = some v := by
  rw [Nat.mul_one]; exact h.elem hv
theorem Cells.lt {w : World} {A : Option Addr} {cs : List Value} (h : Cells w A cs) {w' : World} {B : Nat} (hB : w.heap.size ≤ B) (hb : Below B w w') : Cells w' A cs := h.below (hb.mono hB)
end Eng
end Go.Proofs.Ytdfibmbedjpcgaa
