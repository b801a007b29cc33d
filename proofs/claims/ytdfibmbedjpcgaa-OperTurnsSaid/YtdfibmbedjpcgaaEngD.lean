/- The engine, fifth part: regions whose order is drawn. Generic over the program. -/
import Derived.Test.YtdfibmbedjpcgaaEngS
set_option linter.unusedVariables false
set_option linter.unusedSimpArgs false
namespace Go.Proofs.Ytdfibmbedjpcgaa
open Go Go.RowKit
namespace Eng
variable {X : Cx} {k : List It} {F : Fr} {L : List Ast} {T : Tab}

theorem St.drew {B : Nat} {w0 w : World} {L : List Ast} (h : St B w0 w L) : St B w0 w.drew L := ⟨h.below.drew, h.le, h.hp.below (Below.refl _ _).drew⟩
theorem W_draw (S : World → Prop) (ds : List Nat) (sched : List (Nat × Nat)) {id : Nat} {ops : Array Oper} (hm : X.P.follows .mixedOrders = true) (hS : ∀ w, St X.B X.w0 w L → S w) (hlen : Nat.beq sched.length ops.size = true)
    (hB : schedB ops ds sched (Array.replicate ops.size false) = true)
    (h : schedB ops ds sched (Array.replicate ops.size false) = true → W X (.dr S ds sched.length false (Array.replicate ops.size false) ops :: k) F L) : W X (.code (.region id ops true) :: k) F L := fun a w ha hw => by
  have hl : sched.length = ops.size := Nat.eq_of_beq_eq_true hlen
  have := (h hB a w.drew ha hw.drew).2
  rw [hl] at this
  exact wp_region_last hm this
theorem D_shown {S : World → Prop} {ds : List Nat} {n : Nat} {l : Array Bool} {all : Array Oper} (hS : ∀ w, St X.B X.w0 w L → S w) (h : W X (.dr S ds n false l all :: k) F L) : W X (.dr S ds n true l all :: k) F L := fun a w ha hw =>
  ⟨fun _ => hS w hw, (h a w ha hw).2⟩
theorem D_done {S : World → Prop} {ds : List Nat} {n : Nat} {l : Array Bool} {all : Array Oper} (hB : schedB all ds [] l = true) (h : W X k F L) : W X (.dr S ds n false l all :: k) F L := fun a w ha hw =>
  ⟨(by intro h; cases h), wpAnyLast_done (by simpa [schedB] using hB) (h a w ha hw) n⟩
/-- Is a guard met? -/
def gst (n : Nat) (all : Array Oper) (F : Fr) : Option (Nat × Bool) → Option Bool
  | none => some true
  | some (j, want) => match (all[j]?).bind (·.dst) with
    | some d => match fget F d, Nat.blt d n with
      | some (.bool b), true => some (b == want)
      | some (.tuple vs), true => (match vs.size with | 0 => some false | _ => none)
      | _, _ => none
    | none => none
theorem gst_sound {n : Nat} {a : Act} (ha : Knows n a F) {all : Array Oper} {o : Oper} {b : Bool} (h : gst n all F o.guard = some b) : Region.wanted o (yielded all a.tmps) = b := by
  obtain ⟨dst, op, ty, pos, af, g⟩ := o
  cases g with
  | none => simp [gst] at h; simp [Region.wanted, h]
  | some jw =>
    obtain ⟨j, want⟩ := jw
    simp only [gst] at h
    split at h
    · rename_i d hd
      split at h
      · rename_i c hc hn
        injection h with h
        have := yields_slot ha hd hc hn
        simp only [Region.wanted, this]
        rw [← h]
        cases c <;> cases want <;> rfl
      · rename_i vs hc hn
        split at h
        · rename_i hz
          injection h with h
          have e : vs = #[] := Array.eq_empty_of_size_eq_zero hz
          subst e
          have := yields_undef ha hd hc hn
          simp only [Region.wanted, this]
          rw [← h]
          cases want <;> rfl
        · cases h
      · cases h
    · cases h
theorem sched_tail0 {ops : Array Oper} {ds : List Nat} {i : Nat} {r : List (Nat × Nat)} {l : Array Bool} (h : schedB ops ds ((i, 0) :: r) l = true) :
    Region.free .any ops l i = true ∧ (Region.ready .any ops l).contains i = true ∧ Region.closedB .any ops l = true ∧ Region.lastB .any ops l ds i = true ∧ schedB ops ds r (l.setIfInBounds i true) = true := by
  simp only [schedB, Bool.and_eq_true] at h
  exact ⟨h.1.1.1.1, h.1.1.1.2, h.1.1.2, h.1.2, h.2⟩
def noSel (ops : Array Oper) : Bool := Region.noSelect ops
theorem D_take {S : World → Prop} {ds : List Nat} {n i : Nat} {l : Array Bool} {all : Array Oper} {r : List (Nat × Nat)} {d : Nat} {op : Op} {ty : TypeId} {pos : String} {af : Array Edge} {g : Option (Nat × Bool)} {v : Value} {M : List Ast}
    (hsel : Region.noSelect all = true) (hB : schedB all ds ((i, 0) :: r) l = true) (ho : all[i]? = some ⟨some d, op, ty, pos, af, g⟩) (hd : Nat.blt d X.n = true) (hS : ∀ w, St X.B X.w0 w L → S w) (hSM : ∀ w, S w → St X.B X.w0 w M)
    (hg : gst X.n all F g = some true)
    (hr : ∀ a w, Knows X.n a F → St X.B X.w0 w M → (execOp a.eval ⟨some d, op, ty, pos, af, g⟩).run X.P w = .ok (.value v) w)
    (h : schedB all ds r (l.setIfInBounds i true) = true → W X (.dr S ds n false (l.setIfInBounds i true) all :: k) ((d, v) :: F) L) : W X (.dr S ds (n + 1) false l all :: k) F L := fun a w ha hw => by
  obtain ⟨h1, h2, h3, h4, h5⟩ := sched_tail0 hB
  refine ⟨(by intro h; cases h), ?_⟩
  refine wpAnyLast_take (v := v) ho hsel h1 h2 h3 h4 (fun c a w hq => (post_panic _ _ _ hq).elim) (.inl ⟨gst_sound ha hg, fun w hSw => hr a w ha (hSM w hSw)⟩) (hS w hw) ?_
  exact (h h5 _ w (ha.put d hd v) hw).2
theorem D_pure1 (hT : TabOk X.P T) {S : World → Prop} {ds : List Nat} {n i : Nat} {l : Array Bool} {all : Array Oper} {r : List (Nat × Nat)} {d : Nat} {op : Op} {ty : TypeId} {pos : String} {af : Array Edge} {g : Option (Nat × Bool)} {v : Value} {p : Prop}
    (hsel : Region.noSelect all = true) (hB : schedB all ds ((i, 0) :: r) l = true) (ho : all[i]? = some ⟨some d, op, ty, pos, af, g⟩) (hd : Nat.blt d X.n = true)
    (hg : gst X.n all F g = some true) (hv : pv T F op = some (v, p)) (hp : p)
    (h : schedB all ds r (l.setIfInBounds i true) = true → W X (.dr S ds n false (l.setIfInBounds i true) all :: k) ((d, v) :: F) L) : W X (.dr S ds (n + 1) false l all :: k) F L := fun a w ha hw => by
  obtain ⟨h1, h2, h3, h4, h5⟩ := sched_tail0 hB
  refine ⟨(by intro h; cases h), ?_⟩
  refine wpAnyLast_any (v := v) ho (Region.noSelect_spec hsel) (fun c a w hq => (post_panic _ _ _ hq).elim) n l a w (Region.free_spec ho h1) (by simpa using h2) (.inl ⟨gst_sound ha hg, fun w => ?_⟩) ?_
  · have := pv_sound hT hv hp ha (some d) ty pos af w
    simpa [execOp] using this
  · exact (h h5 _ w (ha.put d hd v) hw).2
theorem D_off {S : World → Prop} {ds : List Nat} {n i : Nat} {l : Array Bool} {all : Array Oper} {r : List (Nat × Nat)} {d : Nat} {op : Op} {ty : TypeId} {pos : String} {af : Array Edge} {g : Option (Nat × Bool)}
    (hsel : Region.noSelect all = true) (hB : schedB all ds ((i, 0) :: r) l = true) (ho : all[i]? = some ⟨some d, op, ty, pos, af, g⟩) (hd : Nat.blt d X.n = true)
    (hg : gst X.n all F g = some false)
    (h : schedB all ds r (l.setIfInBounds i true) = true → W X (.dr S ds n false (l.setIfInBounds i true) all :: k) ((d, undef) :: F) L) : W X (.dr S ds (n + 1) false l all :: k) F L := fun a w ha hw => by
  obtain ⟨h1, h2, h3, h4, h5⟩ := sched_tail0 hB
  refine ⟨(by intro h; cases h), ?_⟩
  refine wpAnyLast_any (v := undef) ho (Region.noSelect_spec hsel) (fun c a w hq => (post_panic _ _ _ hq).elim) n l a w (Region.free_spec ho h1) (by simpa using h2) (.inr ⟨gst_sound ha hg, rfl⟩) ?_
  exact (h h5 _ w (ha.put d hd undef) hw).2
/-- A stretch of operations that only compute, or are passed over. -/
def pvd (n : Nat) (T : Tab) (all : Array Oper) : Fr → List (Nat × Nat) → Option (Fr × List (Nat × Nat) × Prop × Nat)
  | F, (i, 0) :: r => match all[i]? with
    | some ⟨some d, op, _, _, _, g⟩ => match Nat.blt d n, gst n all F g with
      | true, some true => match pv T F op with
        | some (v, p) => match pvd n T all ((d, v) :: F) r with
          | some (F', r', q, m) => some (F', r', p ∧ q, m + 1)
          | none => some ((d, v) :: F, r, p, 1)
        | none => none
      | true, some false => match pvd n T all ((d, undef) :: F) r with
        | some (F', r', q, m) => some (F', r', q, m + 1)
        | none => some ((d, undef) :: F, r, True, 1)
      | _, _ => none
    | _ => none
  | _, _ => none
def setAll : Array Bool → List (Nat × Nat) → Nat → Array Bool
  | l, (i, _) :: r, m + 1 => setAll (l.setIfInBounds i true) r m
  | l, _, _ => l
theorem setAll_zero (l : Array Bool) (r : List (Nat × Nat)) : setAll l r 0 = l := by cases r <;> rfl
theorem D_pure (hT : TabOk X.P T) {S : World → Prop} {ds : List Nat} {all : Array Oper} (hsel : Region.noSelect all = true) : ∀ {s : List (Nat × Nat)} {n n' m : Nat} {l : Array Bool} {F F' : Fr} {s' : List (Nat × Nat)} {p : Prop},
    schedB all ds s l = true → pvd X.n T all F s = some (F', s', p, m) → n = n' + m → p →
    (schedB all ds s' (setAll l s m) = true → W X (.dr S ds n' false (setAll l s m) all :: k) F' L) → W X (.dr S ds n false l all :: k) F L := by
  intro s
  induction s with
  | nil => intro n n' m l F F' s' p hB h; simp [pvd] at h
  | cons iq r ih =>
    obtain ⟨i, q⟩ := iq
    intro n n' m l F F' s' p hB h hn hp hW
    cases q with
    | succ q => simp [pvd] at h
    | zero =>
      simp only [pvd] at h
      split at h
      · rename_i d op ty pos af g ho
        split at h
        · rename_i hd hg
          split at h
          · rename_i v p1 hv
            split at h
            · rename_i F2 r2 q2 m2 h2
              injection h with h; injection h with e1 h; injection h with e2 h; injection h with e3 e4
              subst e1; subst e2; subst e3; subst e4; subst hn
              exact D_pure1 hT hsel hB ho hd hg hv hp.1 (fun hB' => ih hB' h2 rfl hp.2 (fun hB2 => hW hB2))
            · injection h with h; injection h with e1 h; injection h with e2 h; injection h with e3 e4
              subst e1; subst e2; subst e3; subst e4; subst hn
              exact D_pure1 hT hsel hB ho hd hg hv hp (fun hB' => by simp only [setAll, setAll_zero] at hW; exact hW hB')
          · cases h
        · rename_i hd hg
          split at h
          · rename_i F2 r2 q2 m2 h2
            injection h with h; injection h with e1 h; injection h with e2 h; injection h with e3 e4
            subst e1; subst e2; subst e3; subst e4; subst hn
            exact D_off hsel hB ho hd hg (fun hB' => ih hB' h2 rfl hp (fun hB2 => hW hB2))
          · injection h with h; injection h with e1 h; injection h with e2 h; injection h with e3 e4
            subst e1; subst e2; subst e3; subst e4; subst hn
            exact D_off hsel hB ho hd hg (fun hB' => by simp only [setAll, setAll_zero] at hW; exact hW hB')
        · cases h
      · cases h
theorem D_load (hT : TabOk X.P T) {S : World → Prop} {ds : List Nat} {n i : Nat} {l : Array Bool} {all : Array Oper} {r : List (Nat × Nat)} {d : Nat} {t : TypeId} {x : Operand} {ty : TypeId} {pos : String} {af : Array Edge} {g : Option (Nat × Bool)} {pw v : Value} {M : List Ast}
    (hsel : Region.noSelect all = true) (hB : schedB all ds ((i, 0) :: r) l = true) (ho : all[i]? = some ⟨some d, .load t x, ty, pos, af, g⟩) (hd : Nat.blt d X.n = true) (hS : ∀ w, St X.B X.w0 w L → S w) (hSM : ∀ w, S w → St X.B X.w0 w M)
    (hg : gst X.n all F g = some true) (ht : oneC T t = true) (hx : ev F x = some pw) (hc : ∀ w, St X.B X.w0 w M → ∃ ad, pw = .pointer (some ad) ∧ w.cell? ad = some v)
    (h : schedB all ds r (l.setIfInBounds i true) = true → W X (.dr S ds n false (l.setIfInBounds i true) all :: k) ((d, v) :: F) L) : W X (.dr S ds (n + 1) false l all :: k) F L :=
  D_take hsel hB ho hd hS hSM hg (fun a w ha hw => by
    obtain ⟨ad, hp, hcell⟩ := hc w hw
    have hx' := ev_sound ha hx
    simp [execOp, hx', hp, Instr.loadAt, Instr.sureAddr, load1 hT ht hcell]) h
theorem D_loadN (hT : TabOk X.P T) {S : World → Prop} {ds : List Nat} {n i : Nat} {l : Array Bool} {all : Array Oper} {r : List (Nat × Nat)} {d : Nat} {t : TypeId} {x : Operand} {ty : TypeId} {pos : String} {af : Array Edge} {g : Option (Nat × Bool)} {pw : Value} {cs : List Value} {M : List Ast}
    (hsel : Region.noSelect all = true) (hB : schedB all ds ((i, 0) :: r) l = true) (ho : all[i]? = some ⟨some d, .load t x, ty, pos, af, g⟩) (hd : Nat.blt d X.n = true) (hS : ∀ w, St X.B X.w0 w L → S w) (hSM : ∀ w, S w → St X.B X.w0 w M)
    (hg : gst X.n all F g = some true) (hx : ev F x = some pw) (ht : mulC T t cs.length = true) (hc : ∀ w, St X.B X.w0 w M → ∃ ad, pw = .pointer (some ad) ∧ ∀ j v, cs[j]? = some v → w.cell? (ad.add j) = some v)
    (h : schedB all ds r (l.setIfInBounds i true) = true → W X (.dr S ds n false (l.setIfInBounds i true) all :: k) ((d, .agg cs.toArray) :: F) L) : W X (.dr S ds (n + 1) false l all :: k) F L :=
  D_take hsel hB ho hd hS hSM hg (fun a w ha hw => by
    obtain ⟨ad, hp, hcell⟩ := hc w hw
    have hx' := ev_sound ha hx
    simp [execOp, hx', hp, Instr.loadAt, Instr.sureAddr, loadN hT ht hcell]) h
theorem D_load_box (j : Nat) (hT : TabOk X.P T) {ds : List Nat} {n i : Nat} {l : Array Bool} {all : Array Oper} {r : List (Nat × Nat)} {d : Nat} {t : TypeId} {x : Operand} {ty : TypeId} {pos : String} {af : Array Edge} {g : Option (Nat × Bool)} {v : Value} {M : List Ast} {b o : Nat} {t' : TypeId} {cs : List Value}
    (hsel : Region.noSelect all = true) (hB : schedB all ds ((i, 0) :: r) l = true) (ho : all[i]? = some ⟨some d, .load t x, ty, pos, af, g⟩) (hx : ev F x = some (.pointer (some ⟨b, o, none⟩))) (hi : M[j]? = some (box b t' cs)) (hv : cs[o]? = some v) (hd : Nat.blt d X.n = true) (hS : ∀ w, St X.B X.w0 w L → St X.B X.w0 w M)
    (hg : gst X.n all F g = some true) (ht : oneC T t = true)
    (h : schedB all ds r (l.setIfInBounds i true) = true → W X (.dr (fun w => St X.B X.w0 w M) ds n false (l.setIfInBounds i true) all :: k) ((d, v) :: F) L) : W X (.dr (fun w => St X.B X.w0 w M) ds (n + 1) false l all :: k) F L :=
  D_load hT hsel hB ho hd hS (fun _ h => h) hg ht hx (fun w hw => ⟨_, rfl, by rw [box_cell j hw.hp hi, hv]⟩) h
theorem D_load_boxN (j : Nat) (hT : TabOk X.P T) {ds : List Nat} {n i : Nat} {l : Array Bool} {all : Array Oper} {r : List (Nat × Nat)} {d : Nat} {t : TypeId} {x : Operand} {ty : TypeId} {pos : String} {af : Array Edge} {g : Option (Nat × Bool)} {M : List Ast} {b o : Nat} {t' : TypeId} {cs es : List Value}
    (hsel : Region.noSelect all = true) (hB : schedB all ds ((i, 0) :: r) l = true) (ho : all[i]? = some ⟨some d, .load t x, ty, pos, af, g⟩) (hx : ev F x = some (.pointer (some ⟨b, o, none⟩))) (hi : M[j]? = some (box b t' cs))
    (hds : (match tget T t with | some i => (cs.drop o).take i.ti.size | none => []) = es) (ht : mulC T t es.length = true) (hd : Nat.blt d X.n = true) (hS : ∀ w, St X.B X.w0 w L → St X.B X.w0 w M)
    (hg : gst X.n all F g = some true)
    (h : schedB all ds r (l.setIfInBounds i true) = true → W X (.dr (fun w => St X.B X.w0 w M) ds n false (l.setIfInBounds i true) all :: k) ((d, .agg es.toArray) :: F) L) : W X (.dr (fun w => St X.B X.w0 w M) ds (n + 1) false l all :: k) F L :=
  D_loadN hT hsel hB ho hd hS (fun _ h => h) hg hx ht (fun w hw => ⟨_, rfl, fun j' v hj => by
    rw [add_lit, box_cell j hw.hp hi]
    unfold mulC at ht
    split at ht
    · rename_i q hq
      rw [hq] at hds
      simp only at hds
      rw [← hds, List.getElem?_take] at hj
      split at hj
      · rw [List.getElem?_drop] at hj; exact hj
      · cases hj
    · cases ht⟩) h
theorem D_index (hT : TabOk X.P T) {S : World → Prop} {ds : List Nat} {n i : Nat} {l : Array Bool} {all : Array Oper} {r : List (Nat × Nat)} {d : Nat} {t : TypeId} {x ix : Operand} {ty : TypeId} {pos : String} {af : Array Edge} {g : Option (Nat × Bool)} {M : List Ast} {A : Option Addr} {m c : Nat} {kk : IntKind} {q : Int} {sz : Nat}
    (hsel : Region.noSelect all = true) (hB : schedB all ds ((i, 0) :: r) l = true) (ho : all[i]? = some ⟨some d, .indexAddr t x ix, ty, pos, af, g⟩) (hd : Nat.blt d X.n = true) (hS : ∀ w, St X.B X.w0 w L → S w) (hSM : ∀ w, S w → St X.B X.w0 w M)
    (hg : gst X.n all F g = some true) (hx : ev F x = some (.slice A m c)) (hix : ev F ix = some (.int kk q))
    (ht : elsz T t = some sz)
    (h0 : 0 ≤ q) (h1 : q < m) (hA : ∀ w, St X.B X.w0 w M → A.isSome = true)
    (h : schedB all ds r (l.setIfInBounds i true) = true → W X (.dr S ds n false (l.setIfInBounds i true) all :: k) ((d, .pointer (A.map (·.add (q.toNat * sz)))) :: F) L) : W X (.dr S ds (n + 1) false l all :: k) F L :=
  D_take hsel hB ho hd hS hSM hg (fun a w ha hw => by
    have hs := hA w hw
    cases A with
    | none => simp at hs
    | some ad =>
      unfold elsz at ht
      split at ht
      · rename_i q' hq
        split at ht
        · rename_i e hu
          have hu' := (hT.get hq).u; rw [hu] at hu'
          have hsz := fsize_sound hT ht w
          have hcond : 0 ≤ q ∧ q < (m : Int) := ⟨h0, h1⟩
          simp [execOp, ev_sound ha hx, ev_sound ha hix, Instr.indexAt, asIntOf, run_underlying hu', hsz, hcond]
        · cases ht
      · cases ht) h
theorem upon_mono {P : Program} {o : Oper} {a : Act} {next : Act → World → Prop} {Q Q' : Exit → Act → World → Prop} (hp : ∀ c a w, Q' (.panic c) a w → Q (.panic c) a w) (ho : LetsOut Q' → LetsOut Q) {r : Result Next} (h : o.upon P a next Q' r) : o.upon P a next Q r := by
  unfold Oper.upon at *
  split at h
  · exact h
  · exact h
  · exact h
  · exact h.mono (fun e w hh => by cases e <;> first | exact hh | exact hp _ _ _ hh | exact ho hh)
  · exact h
  · exact hp _ _ _ h
  · exact h.elim
theorem D_loud {S : World → Prop} {ds : List Nat} {n i q : Nat} {must : Bool} {l : Array Bool} {all : Array Oper} {r : List (Nat × Nat)} {o : Oper}
    (hr : Region.ready .any all l = [i]) (hq : must = true ∨ i ∈ ds) (ho : all[i]? = some o)
    (h : W X (.ops all [o] :: .dr S ds n must (l.setIfInBounds i true) all :: k) F L) : W X (.dr S ds (n + 1) false l all :: k) F L := fun a w ha hw => by
  refine ⟨(by intro h; cases h), ?_⟩
  refine wpAnyLast_all hr (by simp) (fun j hj => ?_)
  have : j = i := by simpa using hj
  subst this
  have h1 := h a w ha hw
  change wpList X.P all _ [o] a w at h1
  unfold wpList at h1
  unfold wpOp
  simp only [ho]
  split
  · rename_i hwant
    rw [if_pos hwant] at h1
    rcases h1 with h1 | ⟨h1, h2⟩
    · refine .inl ?_
      unfold Oper.wp at h1 ⊢
      refine upon_mono (fun c a w hq => hq) (fun hl => hl) ?_
      generalize (execOp a.eval o).run X.P w = res at h1 ⊢
      unfold Oper.upon at h1 ⊢
      split at h1
      · exact ⟨fun hn _ => (h1.1 (hq.resolve_right hn)), h1.2⟩
      · exact ⟨fun hn _ => (h1.1 (hq.resolve_right hn)), h1.2⟩
      · exact ⟨fun hn _ => (h1.1 (hq.resolve_right hn)), h1.2⟩
      · exact h1.mono (fun e w hh => by
          cases e with
          | returned v => exact ⟨fun hn _ => (hh.1 (hq.resolve_right hn)), hh.2⟩
          | panicked c => exact (post_panic _ _ _ hh).elim
          | outgrown => exact hh)
      · exact h1.mono (fun v w hh => ⟨fun hn _ => (hh.1 (hq.resolve_right hn)), hh.2⟩)
      · exact h1
      · exact h1.elim
    · exact .inr ⟨h1, h2⟩
  · rename_i hwant
    rw [if_neg hwant] at h1
    exact ⟨fun hn _ => (h1.1 (hq.resolve_right hn)), h1.2⟩
theorem D_one {S : World → Prop} {ds : List Nat} {n i : Nat} {l : Array Bool} {all : Array Oper} {r : List (Nat × Nat)} {o : Oper}
    (hB : schedB all ds ((i, 1) :: r) l = true) (ho : all[i]? = some o)
    (h : schedB all ds r (l.setIfInBounds i true) = true → W X (.ops all [o] :: .dr S ds n true (l.setIfInBounds i true) all :: k) F L) : W X (.dr S ds (n + 1) false l all :: k) F L := by
  simp only [schedB, Bool.and_eq_true, beq_iff_eq] at hB
  exact D_loud (q := 1) (r := r) hB.1.1 (.inl rfl) ho (h hB.2)
theorem D_last {S : World → Prop} {ds : List Nat} {n i : Nat} {l : Array Bool} {all : Array Oper} {r : List (Nat × Nat)} {o : Oper}
    (hB : schedB all ds ((i, 2) :: r) l = true) (ho : all[i]? = some o)
    (h : schedB all ds r (l.setIfInBounds i true) = true → W X (.ops all [o] :: .dr S ds n false (l.setIfInBounds i true) all :: k) F L) : W X (.dr S ds (n + 1) false l all :: k) F L := by
  simp only [schedB, Bool.and_eq_true, beq_iff_eq] at hB
  exact D_loud (q := 2) (r := r) hB.1.1 (.inr (by simpa using hB.1.2)) ho (h hB.2)
end Eng
end Go.Proofs.Ytdfibmbedjpcgaa
