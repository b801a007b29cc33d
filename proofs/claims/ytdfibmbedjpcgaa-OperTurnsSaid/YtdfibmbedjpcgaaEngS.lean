/- The engine, fourth part: slices that are made, appended to, written to. Generic over the program. -/
import Derived.Test.YtdfibmbedjpcgaaEngM
set_option linter.unusedVariables false
set_option linter.unusedSimpArgs false
namespace Go.Proofs.Ytdfibmbedjpcgaa
open Go Go.RowKit
namespace Eng
variable {X : Cx} {k : List It} {F : Fr} {L : List Ast} {T : Tab}

/-- What is known of a slice type: its element's type, size, bytes, zero value's cells. -/
structure SlT (P : Program) (t e size bytes : Nat) (z : Value) : Prop where
  u : P.underlying t = some (.slice e)
  i : ∃ i, P.info? e = some i ∧ i.zero = some z ∧ i.size = size ∧ i.bytes = bytes
  zs : (vcells z).length = size
  pos : 0 < size
def slT (T : Tab) (t : Nat) : Option (Nat × Nat × Nat × Value) := match tget T t with
  | some i => match i.u with
    | .slice e => match tget T e with
      | some j => match j.ti.zero with
        | some z => match Nat.beq (vcells z).length j.ti.size, Nat.blt 0 j.ti.size with
          | true, true => some (e, j.ti.size, j.ti.bytes, z)
          | _, _ => none
        | none => none
      | none => none
    | _ => none
  | none => none
theorem slT_sound {P : Program} (hT : TabOk P T) {t e size bytes : Nat} {z : Value} (h : slT T t = some (e, size, bytes, z)) : SlT P t e size bytes z := by
  unfold slT at h
  split at h
  · rename_i i hi
    split at h
    · rename_i e' hu
      split at h
      · rename_i j hj
        split at h
        · rename_i z' hz
          split at h
          · rename_i h1 h2
            injection h with h; injection h with h3 h; injection h with h4 h; injection h with h5 h6
            subst h3; subst h4; subst h5; subst h6
            have hd := (hT.get hi).u; rw [hu] at hd
            exact ⟨hd, ⟨j.ti, (hT.get hj).ti, hz, rfl, rfl⟩, Nat.eq_of_beq_eq_true h1, by simpa [Nat.blt_eq] using h2⟩
          · cases h
        · cases h
      · cases h
    · cases h
  · cases h

theorem Cells.at_ {w : World} {a : Addr} {cs : List Value} (h : Cells w (some a) cs) : ∀ j u, cs[j]? = some u → w.cell? (a.add j) = some u := fun j u hj => by
  obtain ⟨b, hb, hc⟩ := h j u hj
  injection hb with hb
  subst hb
  exact hc
theorem Cells.len_none {w : World} {cs : List Value} (h : Cells w none cs) : cs = [] := by
  cases cs with
  | nil => rfl
  | cons c cs => obtain ⟨a, ha, _⟩ := h 0 c rfl; cases ha

/-- The built-in append, whatever the two slices are: it fits (and then the first is owned, or nothing is appended), or there is a new block. -/
theorem append_grow {P : Program} {t e size bytes : Nat} {z : Value} (hS : SlT P t e size bytes z) (ty : TypeId) {w : World} {A A' : Option Addr} {n c m c' : Nat} {olds news : List Value}
    (ho : Cells w A olds) (hol : olds.length = n * size) (hn : Cells w A' news) (hnl : news.length = m * size) (hg : c < n + m) (h63 : n + m ≤ maxLen) (hb : (n + m) * bytes ≤ 140737488355328) :
    ∃ A2 c2 w', (Builtin.append_ #[t, t] ty #[.slice A n c, .slice A' m c']).run P w = .ok (.slice A2 (n + m) c2) w' ∧ ownR w' e size A2 (n + m) c2 (olds ++ news) ∧
      Below w.heap.size w w' ∧ (∃ g, A2 = some ⟨g, 0, none⟩ ∧ w.heap.size ≤ g) ∧ 0 < c2 := by
  obtain ⟨i, hi, hz, hsz, hby⟩ := hS.i
  subst hsz; subst hby
  have hm : 0 < m ∨ A' = none ∨ True := .inr (.inr trivial)
  have h1 : ¬ (n + m ≤ c) := by omega
  have h63' : ¬ (9223372036854775807 < ((n : Int) + (m : Int))) := by unfold maxLen at h63; omega
  have h48 : Builtin.nextslicecap (n + m) c * i.bytes ≤ 281474976710656 := growslice_fits hg hb
  have h48' : ¬ (281474976710656 < Builtin.nextslicecap (n + m) c * i.bytes) := by omega
  have fc : ∀ (B : Option Addr) (q r : Nat) (cs : List Value), Cells w B cs → cs.length = q * i.size → (Builtin.firstCells i.size q (.slice B q r)).run P w.drew = .ok cs.toArray w.drew := by
    intro B q r cs hB hl
    cases B with
    | none => have := hB.len_none; subst this; exact run_firstCells_none w.drew i.size q q r
    | some b => exact run_firstCells_some w.drew i.size q b q r cs hl (by simpa using hB.at_)
  have hfo := fc A n c olds ho hol
  have hfn := fc A' m c' news hn hnl
  have hfo' : (Builtin.firstCells i.size n (.slice A n c)).run P w.drew = .ok olds.toArray w.drew := hfo
  have hrun : (Builtin.append_ #[t, t] ty #[.slice A n c, .slice A' m c']).run P w =
      .ok (.slice (some ⟨w.heap.size, 0, none⟩) (n + m) (grownCap w (n + m) c e))
        (w.drew.alloc (.cells (olds.toArray ++ news.toArray ++ Builtin.zeroCells z.cells (grownCap w (n + m) c e - (n + m))) e)) := by
    simp [Builtin.append_, run_underlying hS.u, sizeOf, typeInfo, zeroValue, hi, hz, Builtin.lenOf, h1, h63', h48', Question.forced, hfo', hfn, newRow, grownCap]
    congr 2
    apply Array.ext'
    simp [List.append_assoc]
  have hcap : n + m ≤ grownCap w (n + m) c e ∧ grownCap w (n + m) c e ≤ maxLen := by
    unfold grownCap maxLen
    simp only [Question.cut]
    unfold maxLen at h63
    have h2 : (w.tape w.drawn (.appendCap (n + m) c e)) % (2 ^ 63 - (n + m)) < 2 ^ 63 - (n + m) := Nat.mod_lt _ (by omega)
    omega
  refine ⟨_, _, _, hrun, .inr ⟨w.heap.size, _, rfl, heap_alloc_new w.drew _, hcap.1, hcap.2, ?_, ?_, ?_⟩, ?_, ⟨_, rfl, Nat.le_refl _⟩, by omega⟩
  · have hzs : z.cells.size = i.size := by rw [vcells_eq]; simpa using hS.zs
    simp only [Array.size_append, List.size_toArray, size_zeroCells, hzs, hol, hnl]
    rw [← Nat.add_mul, ← Nat.add_mul]
    refine Nat.le_of_eq ?_
    congr 1
    omega
  · rw [List.length_append, hol, hnl, Nat.add_mul]
  · simp only [Array.toList_append, List.toList_toArray]
    rw [List.take_append_of_le_length (by rw [List.length_append, hol, hnl, Nat.add_mul]; exact Nat.le_refl _)]
    rw [List.take_of_length_le (by rw [List.length_append, hol, hnl, Nat.add_mul]; exact Nat.le_refl _)]
  · exact (Below.refl _ _).drew.alloc (Nat.le_refl _) _
theorem append_fits {P : Program} {t e size bytes : Nat} {z : Value} (hS : SlT P t e size bytes z) (ty : TypeId) {w : World} {A A' : Option Addr} {n c m c' : Nat} {olds news : List Value}
    (ho : ownR w e size A n c olds) (hn : Cells w A' news) (hnl : news.length = m * size) (h1 : ∀ u ∈ news, u.oneCell' = true) (hg : n + m ≤ c) :
    ∃ w', (Builtin.append_ #[t, t] ty #[.slice A n c, .slice A' m c']).run P w = .ok (.slice A (n + m) c) w' ∧ ownR w' e size A (n + m) c (olds ++ news) ∧
      (∀ B, (∀ a, A = some a → 0 < c → B ≤ a.block) → Below B w w') ∧ (∀ b, b < w.heap.size → ¬ (0 < c ∧ A.map (·.block) = some b) → w'.heap[b]? = w.heap[b]?) := by
  obtain ⟨i, hi, hz, hsz, hby⟩ := hS.i
  subst hsz; subst hby
  rcases ho with ⟨rfl, rfl, rfl⟩ | ⟨g, cur, rfl, hgc, h2, h3, h4, h5, h6⟩
  · have hm : m = 0 := by omega
    subst hm
    have : news = [] := List.eq_nil_of_length_eq_zero (by simpa using hnl)
    subst this
    refine ⟨w, ?_, .inl ⟨rfl, rfl, rfl⟩, fun B _ => Below.refl _ _, fun _ _ _ => rfl⟩
    have hf : (Builtin.firstCells i.size 0 (.slice A' 0 c')).run P w = .ok #[] w := by
      cases A' with
      | none => simp [Builtin.firstCells]
      | some b => exact run_firstCells_some w i.size 0 b 0 c' [] (by simp) (fun j v h => by simp at h)
    simp [Builtin.append_, run_underlying hS.u, sizeOf, typeInfo, hi, Builtin.lenOf, hf]
    cases A <;> simp [storeCells]
  · have hf : (Builtin.firstCells i.size m (.slice A' m c')).run P w = .ok news.toArray w := by
      cases A' with
      | none => have := hn.len_none; subst this; exact run_firstCells_none w i.size m m c'
      | some b => exact run_firstCells_some w i.size m b m c' news hnl hn.at_
    have hfit : n * i.size + news.length ≤ cur.toList.length := by
      rw [hnl, ← Nat.add_mul, Array.length_toList]; exact Nat.le_trans (Nat.mul_le_mul_right _ hg) h4
    obtain ⟨w', r1, r2, r3, r4, r5, r6, r7⟩ := storeCells_run P g e news (n * i.size) cur.toList w (by simpa using hgc) hfit h1 ⟨g, n * i.size, none⟩ 0 (by rw [Eng.add_lit]; rfl) rfl
    refine ⟨w', ?_, .inr ⟨g, _, rfl, r2, hg, h3, ?_, ?_, ?_⟩, fun B hB => ?_, fun b hb hn' => ?_⟩
    · simp [Builtin.append_, run_underlying hS.u, sizeOf, typeInfo, hi, Builtin.lenOf, hg, hf, Eng.add_lit, r1]
    · simpa [putL_length] using h4
    · rw [List.length_append, h5, hnl, Nat.add_mul]
    · simp only [List.toList_toArray]
      apply List.ext_getElem?
      intro j
      rw [List.getElem?_take]
      have hsum : (n + m) * i.size = n * i.size + news.length := by rw [hnl, Nat.add_mul]
      by_cases hj : j < (n + m) * i.size
      · rw [if_pos hj, putL_get _ _ _ _ hfit]
        by_cases hj2 : n * i.size ≤ j ∧ j < n * i.size + news.length
        · rw [if_pos hj2, List.getElem?_append_right (by omega), h5]
        · rw [if_neg hj2, List.getElem?_append_left (by omega), ← h6, List.getElem?_take, if_pos (by omega)]
      · rw [if_neg hj, List.getElem?_eq_none (by rw [List.length_append]; omega)]
    · rcases Nat.eq_zero_or_pos c with hc | hc
      · subst hc
        have hm : m = 0 := by omega
        subst hm
        have : news = [] := List.eq_nil_of_length_eq_zero (by simpa using hnl)
        subst this
        exact ⟨r5, r6, r7, Nat.le_of_eq r3.symm, fun b hb => by
          by_cases e : b = g
          · subst e; rw [r2, hgc]; simp [putL_nil]
          · exact r4 b e⟩
      · exact below_of r3 r4 r5 r6 r7 (hB _ rfl hc)
    · rcases Nat.eq_zero_or_pos c with hc | hc
      · by_cases e : b = g
        · subst e
          have hm : m = 0 := by omega
          subst hm
          have : news = [] := List.eq_nil_of_length_eq_zero (by simpa using hnl)
          subst this
          rw [r2, hgc]; simp [putL_nil]
        · exact r4 b e
      · exact r4 b (fun e => hn' ⟨hc, by rw [e]; rfl⟩)

theorem append_exec {P : Program} {a : Act} {F : Fr} {n : Nat} (ha : Knows n a F) {d : Option Nat} {s x : Operand} {t ty : TypeId} {pos : String} {af : Array Edge} {v u : Value} (hs : ev F s = some v) (hx : ev F x = some u) {w w' : World} {r : Value}
    (h : (Builtin.append_ #[t, t] ty #[v, u]).run P w = .ok r w') :
    (execOp a.eval ⟨d, .call { callee := .builtin .append, args := #[s, x], argTypes := #[t, t] }, ty, pos, af, none⟩).run P w = .ok (.value r) w' := by
  simp [execOp, resolve, invoke, builtin, ev_sound ha hs, ev_sound ha hx, h]
theorem W_append_own (i : Nat) (hT : TabOk X.P T) {all : Array Oper} {d : Nat} {s x : Operand} {t ty : TypeId} {pos : String} {af : Array Edge} {l : List Oper} {A A' : Option Addr} {n c m c' : Nat} {e size bytes : Nat} {z : Value} {olds news : List Value}
    (hd : Nat.blt d X.n = true) (hs : ev F s = some (.slice A n c)) (hx : ev F x = some (.slice A' m c')) (ht : slT T t = some (e, size, bytes, z))
    (hi : L[i]? = some (own e size A n c olds)) (hn : ∀ w, St X.B X.w0 w L → Cells w A' news) (hnl : news.length = m * size) (h1 : ∀ u ∈ news, u.oneCell' = true) (h63 : n + m ≤ maxLen) (hb : (n + m) * bytes ≤ 140737488355328)
    (h : ∀ A2 c2, W X (.ops all l :: k) ((d, .slice A2 (n + m) c2) :: F) (setL L i (own e size A2 (n + m) c2 (olds ++ news)))) :
    W X (.ops all (⟨some d, .call { callee := .builtin .append, args := #[s, x], argTypes := #[t, t] }, ty, pos, af, none⟩ :: l) :: k) F L :=
  W_valw hd (fun a w ha hw => by
    have hS := slT_sound hT ht
    obtain ⟨S1, g1, g2, g3⟩ := hw.upd i hi
    obtain ⟨g4, g5⟩ := own_A.1 g1
    by_cases hg : n + m ≤ c
    · obtain ⟨w', r1, r2, r3, r4⟩ := append_fits hS ty g4 (hn w hw) hnl h1 hg
      refine ⟨_, w', _, append_exec ha hs hx r1, g3 w' (own e size A (n + m) c (olds ++ news)) S1 (own_A.2 ⟨r2, g5⟩) (fun _ hb => .inl hb) (r3 X.B (fun a hA hc => (g2 a.block ((g5 _).2 ⟨hc, by rw [hA]; rfl⟩)).1)) (fun b hb hn => r4 b hb (fun hh => hn ((g5 b).2 hh))), h A c⟩
    · obtain ⟨A2, c2, w', r1, r2, r3, ⟨g, r4, r5⟩, r6⟩ := append_grow hS ty g4.cells (g4.length).1 (hn w hw) hnl (Nat.lt_of_not_le hg) h63 hb
      refine ⟨_, w', _, append_exec ha hs hx r1, g3 w' (own e size A2 (n + m) c2 (olds ++ news)) (fun x => x = g) (own_A.2 ⟨r2, fun x => ⟨fun hx => ⟨r6, by rw [r4, hx]; rfl⟩, fun hx => by rw [r4] at hx; exact (Option.some.inj hx.2).symm⟩⟩) (fun b (hb : b = g) => .inr (by rw [hb]; exact r5)) (r3.mono hw.le) (fun b hb _ => r3.block b hb), h A2 c2⟩)
theorem W_append_new (hT : TabOk X.P T) {all : Array Oper} {d : Nat} {s x : Operand} {t ty : TypeId} {pos : String} {af : Array Edge} {l : List Oper} {A A' : Option Addr} {n c m c' : Nat} {e size bytes : Nat} {z : Value} {olds news : List Value}
    (hd : Nat.blt d X.n = true) (hs : ev F s = some (.slice A n c)) (hx : ev F x = some (.slice A' m c')) (ht : slT T t = some (e, size, bytes, z))
    (ho : ∀ w, St X.B X.w0 w L → Cells w A olds) (hol : olds.length = n * size) (hn : ∀ w, St X.B X.w0 w L → Cells w A' news) (hnl : news.length = m * size) (hg : c < n + m) (h63 : n + m ≤ maxLen) (hb : (n + m) * bytes ≤ 140737488355328)
    (h : ∀ A2 c2, W X (.ops all l :: k) ((d, .slice A2 (n + m) c2) :: F) (own e size A2 (n + m) c2 (olds ++ news) :: L)) :
    W X (.ops all (⟨some d, .call { callee := .builtin .append, args := #[s, x], argTypes := #[t, t] }, ty, pos, af, none⟩ :: l) :: k) F L :=
  W_valw hd (fun a w ha hw => by
    have hS := slT_sound hT ht
    obtain ⟨A2, c2, w', r1, r2, r3, ⟨g, r4, r5⟩, r6⟩ := append_grow hS ty (ho w hw) hol (hn w hw) hnl hg h63 hb
    refine ⟨_, w', _, append_exec ha hs hx r1, hw.add (M := [own e size A2 (n + m) c2 (olds ++ news)]) r3 ⟨fun x => x = g, ⟨fun x => x = g, fun _ => False, own_A.2 ⟨r2, fun x => ⟨fun hx => ⟨r6, by rw [r4, hx]; rfl⟩, fun hx => by rw [r4] at hx; exact (Option.some.inj hx.2).symm⟩⟩, fun _ h => h, fun _ _ h => h, fun b => by simp⟩, fun b hb => by omega⟩, h A2 c2⟩)
theorem W_append_zero (hT : TabOk X.P T) {all : Array Oper} {d : Nat} {s x : Operand} {t ty : TypeId} {pos : String} {af : Array Edge} {l : List Oper} {A A' : Option Addr} {m c' : Nat} {e size bytes : Nat} {z : Value} {news : List Value}
    (hd : Nat.blt d X.n = true) (hs : ev F s = some (.slice A 0 0)) (hx : ev F x = some (.slice A' m c')) (ht : slT T t = some (e, size, bytes, z))
    (hn : ∀ w, St X.B X.w0 w L → Cells w A' news) (hnl : news.length = m * size) (h63 : m ≤ maxLen) (hb : m * bytes ≤ 140737488355328)
    (h : ∀ A2 c2, W X (.ops all l :: k) ((d, .slice A2 m c2) :: F) (own e size A2 m c2 news :: L)) :
    W X (.ops all (⟨some d, .call { callee := .builtin .append, args := #[s, x], argTypes := #[t, t] }, ty, pos, af, none⟩ :: l) :: k) F L := by
  rcases Nat.eq_zero_or_pos m with hm | hm
  · subst hm
    have : news = [] := List.eq_nil_of_length_eq_zero (by simpa using hnl)
    subst this
    refine W_valw hd (fun a w ha hw => ?_)
    have hS := slT_sound hT ht
    obtain ⟨w', r1, r2, r3, r4⟩ := append_fits hS ty (w := w) (A := A) (n := 0) (c := 0) (c' := c') (olds := []) (news := []) (m := 0) (.inl ⟨rfl, rfl, rfl⟩) (hn w hw) (by simp) (fun _ h => by cases h) (Nat.le_refl _)
    refine ⟨_, w', _, append_exec ha hs hx r1, hw.add (M := [own e size A 0 0 []]) (r3 _ (fun a _ h => by omega)) ⟨fun _ => False, ⟨fun _ => False, fun _ => False, own_A.2 ⟨r2, fun x => by simp⟩, fun _ h => h, fun _ _ h => h, fun b => by simp⟩, fun b hb => hb.elim⟩, h A 0⟩
  · have := W_append_new (L := L) (k := k) (F := F) hT (all := all) (pos := pos) (af := af) (l := l) (ty := ty) hd hs hx ht (olds := []) (fun w _ => Cells.nil w A) (by simp) hn hnl (by omega) (by omega) (by rw [Nat.zero_add]; exact hb)
    exact this (fun A2 c2 => by rw [Nat.zero_add, List.nil_append]; exact h A2 c2)

/-! ### make, literals -/
theorem flat_get (z : List Value) (hz : 0 < z.length) : ∀ (n j : Nat), j < n * z.length → ((List.replicate n z).flatten)[j]? = some (z[j % z.length]'(Nat.mod_lt _ hz)) := by
  intro n
  induction n with
  | zero => intro j h; omega
  | succ n ih =>
    intro j h
    rw [List.replicate_succ, List.flatten_cons]
    by_cases hj : j < z.length
    · rw [List.getElem?_append_left hj]
      simp only [Nat.mod_eq_of_lt hj]
      exact List.getElem?_eq_getElem hj
    · rw [List.getElem?_append_right (by omega), ih _ (by rw [Nat.succ_mul] at h; omega)]
      congr 2
      rw [Nat.mod_eq_sub_mod (by omega : j ≥ z.length)]
theorem flat_length (z : List Value) (n : Nat) : ((List.replicate n z).flatten).length = n * z.length := by
  induction n with
  | zero => simp
  | succ n ih => rw [List.replicate_succ, List.flatten_cons, List.length_append, ih, Nat.succ_mul]; omega
theorem range_flat (z : Array Value) (hz : 0 < z.size) (n : Nat) : (Array.range (n * z.size)).map (fun i => z[i % z.size]!) = ((List.replicate n z.toList).flatten).toArray := by
  apply Array.ext'
  apply List.ext_getElem?
  intro j
  simp only [Array.toList_map, Array.toList_range, List.getElem?_map, List.toList_toArray]
  by_cases hj : j < n * z.size
  · rw [List.getElem?_range hj, flat_get z.toList (by simpa using hz) n j (by simpa using hj)]
    have hm : j % z.size < z.size := Nat.mod_lt _ hz
    simp [hm, getElem!_pos]
  · rw [List.getElem?_eq_none (by simpa using hj), List.getElem?_eq_none (by rw [flat_length]; simpa using hj)]
    rfl
/-- make: as many zero values as its length has. -/
theorem make_run {P : Program} {t e size bytes : Nat} {z : Value} (hS : SlT P t e size bytes z) {w : World} {l c : Int} {k1 k2 : IntKind} (h0 : 0 ≤ l) (h1 : l ≤ c) (h2 : c * bytes ≤ 281474976710656) (h3 : c ≤ 9223372036854775807) :
    ∃ w', (Instr.makeSlice t (.int k1 l) (.int k2 c)).run P w = .ok (.slice (some ⟨w.heap.size, 0, none⟩) l.toNat c.toNat) w' ∧ w' = w.alloc (.cells ((List.replicate c.toNat (vcells z)).flatten).toArray e) := by
  obtain ⟨i, hi, hz, hsz, hby⟩ := hS.i
  subst hsz; subst hby
  refine ⟨_, ?_, rfl⟩
  have hwl : IntKind.i64.wrap l = l := IntWalk.i64_in l (by omega)
  have hwc : IntKind.i64.wrap c = c := IntWalk.i64_in c (by omega)
  have t1 : ¬ ((c < 0 ∨ 281474976710656 < (i.bytes : Int) * c) ∨ l < 0 ∨ c < l) := by
    have : (i.bytes : Int) * c = c * i.bytes := Int.mul_comm _ _
    omega
  have hzs : z.cells.size = i.size := by rw [vcells_eq]; simpa using hS.zs
  have hzl : (vcells z).length = z.cells.size := by rw [vcells_eq]; simp
  have key := range_flat z.cells (by rw [hzs]; exact hS.pos) c.toNat
  have hvl : z.cells.toList = vcells z := by rw [vcells_eq]
  rw [hvl] at key
  have e1 : (decide (c < 0) || decide ((i.bytes : Int) * c > 2 ^ 48) || decide (l < 0) || decide (l > c)) = false := by
    have : (i.bytes : Int) * c = c * i.bytes := Int.mul_comm _ _
    simp; omega
  simp only [Instr.makeSlice, Sem.run_bind, run_underlying hS.u, Result.andThen_ok, asInt, asIntOf, Sem.run_pure, typeInfo, run_program, hi, hwl, hwc, e1, sizeOf]
  by_cases hc0 : c.toNat * i.size = 0
  · have hc : c.toNat = 0 := by
      rcases Nat.mul_eq_zero.1 hc0 with h | h
      · exact h
      · have := hS.pos; omega
    simp [hc, newRow, hc0, hi]
    have : Array.map (fun _ : Nat => (default : Value)) (Array.range 0) = #[] := by apply Array.ext'; simp
    rw [this]
  · simp [hc0, zeroValue, typeInfo, hi, hz, newRow]
    rw [← hzs, ← key]
theorem zlen {P : Program} {t e size bytes : Nat} {z : Value} (hS : SlT P t e size bytes z) (n : Nat) : ((List.replicate n (vcells z)).flatten).length = n * size := by rw [flat_length, hS.zs]
theorem take_flat (z : List Value) (n m : Nat) (h : n ≤ m) : ((List.replicate m z).flatten).take (n * z.length) = (List.replicate n z).flatten := by
  obtain ⟨d, rfl⟩ : ∃ d, m = n + d := ⟨m - n, by omega⟩
  rw [← List.replicate_append_replicate, List.flatten_append, List.take_append_of_le_length (by rw [flat_length]; exact Nat.le_refl _), List.take_of_length_le (by rw [flat_length]; exact Nat.le_refl _)]
theorem St.newOwn {B : Nat} {w0 w : World} {L : List Ast} (h : St B w0 w L) (e size n c : Nat) (cs cur : List Value) (h1 : n ≤ c) (h2 : c ≤ maxLen) (h3 : cur.length = c * size) (h4 : cur.take (n * size) = cs) :
    St B w0 (w.alloc (.cells cur.toArray e)) (own e size (some ⟨w.heap.size, 0, none⟩) n c cs :: L) := by
  have hr : ownR (w.alloc (.cells cur.toArray e)) e size (some ⟨w.heap.size, 0, none⟩) n c cs :=
    .inr ⟨_, _, rfl, heap_alloc_new w _, h1, h2, Nat.le_of_eq (by simpa using h3.symm), by rw [← h4, List.length_take, h3]; exact Nat.min_eq_left (Nat.mul_le_mul_right _ h1), by simpa using h4⟩
  rcases Nat.eq_zero_or_pos c with hc | hc
  · have hb : Below w.heap.size w (w.alloc (.cells cur.toArray e)) := (Below.refl _ _).alloc (Nat.le_refl _) _
    exact h.add (M := [own e size (some ⟨w.heap.size, 0, none⟩) n c cs]) hb ⟨fun _ => False, ⟨fun _ => False, fun _ => False, own_A.2 ⟨hr, fun x => by simp; omega⟩, fun _ h => h, fun _ _ h => h, fun b => by simp⟩, fun b hb => hb.elim⟩
  · exact h.new _ (own_A.2 ⟨hr, fun x => ⟨fun hx => ⟨hc, by rw [hx]; rfl⟩, fun hx => (Option.some.inj hx.2).symm⟩⟩)
theorem W_make (hT : TabOk X.P T) {all : Array Oper} {d : Nat} {x y : Operand} {t ty : TypeId} {pos : String} {af : Array Edge} {l : List Oper} {n c : Int} {k1 k2 : IntKind} {e size bytes : Nat} {z : Value}
    (hd : Nat.blt d X.n = true) (hx : ev F x = some (.int k1 n)) (hy : ev F y = some (.int k2 c)) (ht : slT T t = some (e, size, bytes, z))
    (h0 : 0 ≤ n) (h1 : n ≤ c) (h2 : c * bytes ≤ 281474976710656) (h3 : c ≤ 9223372036854775807)
    (h : ∀ g, W X (.ops all l :: k) ((d, .slice (some ⟨g, 0, none⟩) n.toNat c.toNat) :: F) (own e size (some ⟨g, 0, none⟩) n.toNat c.toNat ((List.replicate n.toNat (vcells z)).flatten) :: L)) :
    W X (.ops all (⟨some d, .makeSlice t x y, ty, pos, af, none⟩ :: l) :: k) F L :=
  W_valw hd (fun a w ha hw => by
    have hS := slT_sound hT ht
    obtain ⟨w', r1, r2⟩ := make_run hS (w := w) (k1 := k1) (k2 := k2) h0 h1 h2 h3
    subst r2
    refine ⟨_, _, _, ?_, hw.newOwn e size n.toNat c.toNat ((List.replicate n.toNat (vcells z)).flatten) _ (by omega) (by unfold maxLen; omega) (zlen hS _) (by rw [← hS.zs]; exact take_flat _ _ _ (by omega)), h _⟩
    simp [execOp, ev_sound ha hx, ev_sound ha hy, r1])

/-- A literal's cells: zero values, with the parts laid in. -/
def litL (size : Nat) : List Value → List (Nat × Value) → Option (List Value)
  | cs, [] => some cs
  | cs, (i, v) :: r => match Nat.beq (vcells v).length size, Nat.ble (i * size + size) cs.length with
    | true, true => litL size (putL cs (i * size) (vcells v)) r
    | _, _ => none
theorem litL_length {size : Nat} : ∀ {l : List (Nat × Value)} {cs ds : List Value}, litL size cs l = some ds → ds.length = cs.length
  | [], cs, ds, h => by simp [litL] at h; rw [h]
  | (i, v) :: r, cs, ds, h => by
    simp only [litL] at h
    split at h
    · rw [litL_length h, putL_length]
    · cases h
theorem lit_fill {size : Nat} : ∀ (l : List (Nat × Value)) (cs ds : List Value), litL size cs l = some ds → Instr.fill (fun i => some (i * size, size)) cs.toArray l = some ds.toArray := by
  intro l
  induction l with
  | nil => intro cs ds h; simp [litL] at h; simp [Instr.fill, h]
  | cons iv r ih =>
    obtain ⟨i, v⟩ := iv
    intro cs ds h
    simp only [litL] at h
    split at h
    · rename_i h1 h2
      have h1' : (vcells v).length = size := Nat.eq_of_beq_eq_true h1
      have h2' : i * size + size ≤ cs.length := by simpa using h2
      have hz := foldl_put (vcells v) cs (i * size) 0 (by rw [h1', Nat.add_zero]; exact h2')
      simp only [Nat.add_zero] at hz
      simp only [Instr.fill, vcells_eq]
      rw [if_neg (by simp [h1']; omega)]
      have hzz : (vcells v).toArray.zipIdx = ((vcells v).zipIdx 0).toArray := by rw [← Array.toList_inj]; simp
      rw [hzz, ← Array.foldl_toList]
      simp only [List.toList_toArray]
      rw [hz]
      exact ih _ _ h
    · cases h
def zflat : Nat → List Value → List Value
  | 0, _ => []
  | n + 1, z => z ++ zflat n z
theorem zflat_eq (n : Nat) (z : List Value) : zflat n z = (List.replicate n z).flatten := by
  induction n with
  | zero => rfl
  | succ n ih => rw [zflat, ih, List.replicate_succ, List.flatten_cons]
theorem W_lit (hT : TabOk X.P T) {all : Array Oper} {d : Nat} {t ty : TypeId} {n : Nat} {parts : Array (Nat × Operand)} {pos : String} {af : Array Edge} {l : List Oper} {e size bytes : Nat} {z : Value} {ps : List (Nat × Value)} {cs : List Value}
    (hd : Nat.blt d X.n = true) (ht : slT T t = some (e, size, bytes, z)) (hps : evp F parts.toList = some ps) (hcs : litL size (zflat n (vcells z)) ps = some cs) (hlim : Nat.ble (n * size) 16777216 = true) (hpos : Nat.blt 0 n = true)
    (h : ∀ g, W X (.ops all l :: k) ((d, .slice (some ⟨g, 0, none⟩) n n) :: F) (own e size (some ⟨g, 0, none⟩) n n cs :: L)) :
    W X (.ops all (⟨some d, .buildSlice t n parts, ty, pos, af, none⟩ :: l) :: k) F L :=
  W_valw hd (fun a w ha hw => by
    have hS := slT_sound hT ht
    have hlim' : n * size ≤ 16777216 := by simpa using hlim
    have hpos' : 0 < n := by simpa [Nat.blt_eq] using hpos
    have hsz := hS.pos
    have hn : n ≤ maxLen := by
      have : n ≤ n * size := Nat.le_mul_of_pos_right _ hsz
      unfold maxLen; omega
    have hcl : cs.length = n * size := by rw [litL_length hcs, zflat_eq, flat_length, hS.zs]
    refine ⟨_, _, _, ?_, hw.newOwn e size n n cs cs (Nat.le_refl _) hn hcl (List.take_of_length_le (by omega)), h _⟩
    obtain ⟨i, hi, hz, hs, hby⟩ := hS.i
    have hne : ¬ (n * size = 0) := by
      intro h
      rcases Nat.mul_eq_zero.1 h with h | h <;> omega
    have hzs : z.cells.size = size := by rw [vcells_eq]; simpa using hS.zs
    have key := range_flat z.cells (by rw [hzs]; exact hsz) n
    have hvl : z.cells.toList = vcells z := by rw [vcells_eq]
    rw [hvl, ← zflat_eq, hzs] at key
    have hf := lit_fill _ _ _ hcs
    have hev : (parts.map fun (i, x) => (i, a.eval x)).toList = ps := by rw [← evp_sound ha hps]; simp
    have hbig : ¬ (n * size > 2 ^ 24) := by omega
    have hsize : (sizeOf e).run X.P w = .ok size w := by simp [sizeOf, typeInfo, hi, hs]
    have hzero : (zeroValue e).run X.P w = .ok z w := by simp [zeroValue, typeInfo, hi, hz]
    simp only [execOp, Instr.buildSlice, Sem.run_bind, run_underlying hS.u, Result.andThen_ok, hsize, hbig, hne, if_false, hzero, Sem.run_pure, Sem.run_ite]
    rw [hev]
    simp only [hzs, key, hf]
    simp [newRow])
/-! ### A store into an element of an owned slice -/
theorem W_store_own (i : Nat) (hT : TabOk X.P T) {all : Array Oper} {t : TypeId} {x y : Operand} {ty : TypeId} {pos : String} {af : Array Edge} {l : List Oper} {A : Option Addr} {n c : Nat} {e size o : Nat} {cs : List Value} {v pw : Value}
    (hx : ev F x = some pw) (hp : ∀ ad, A = some ad → pw = .pointer (some (ad.add o))) (hi : L[i]? = some (own e size A n c cs)) (hy : ev F y = some v) (hs : fsize T t = some (vcells v).length) (hfit : o + (vcells v).length ≤ n * size) (hpos : 0 < n)
    (h1 : allOne (vcells v) = true)
    (h : W X (.ops all l :: k) F (setL L i (own e size A n c (putL cs o (vcells v))))) : W X (.ops all (⟨none, .store t x y, ty, pos, af, none⟩ :: l) :: k) F L :=
  W_skipw (fun a w ha hw => by
    obtain ⟨S1, g1, g2, g3⟩ := hw.upd i hi
    obtain ⟨g4, g5⟩ := own_A.1 g1
    rcases g4 with ⟨h0, _, _⟩ | ⟨g, cur, rfl, hg, q1, q2, q3, q4, q5⟩
    · omega
    · have hcl : c * size ≤ cur.toList.length := by simpa using q3
      have hle : n * size ≤ c * size := Nat.mul_le_mul_right _ q1
      obtain ⟨w', r1, r2, r3, r4, r5, r6, r7⟩ := storeCells_run X.P g e (vcells v) o cur.toList w (by simpa using hg) (by omega) (by simpa [allOne] using h1) ⟨g, o, none⟩ 0 (by rw [Eng.add_lit]; rfl) rfl
      have hB : X.B ≤ g := (g2 g ((g5 g).2 ⟨by omega, rfl⟩)).1
      refine ⟨w', _, ?_, g3 w' (own e size (some ⟨g, 0, none⟩) n c (putL cs o (vcells v))) S1 (own_A.2 ⟨.inr ⟨g, _, rfl, r2, q1, q2, ?_, by rw [putL_length, q4], ?_⟩, g5⟩) (fun _ hb => .inl hb) (below_of r3 r4 r5 r6 r7 hB) (fun b hb hn => r4 b (fun e => hn ((g5 b).2 ⟨by omega, by rw [e]; rfl⟩))), h⟩
      · have hpw := hp _ rfl
        rw [Eng.add_lit, Nat.zero_add] at hpw
        simp [execOp, ev_sound ha hx, hpw, ev_sound ha hy, Instr.storeAt, Instr.sureAddr, storeVar, vcells_eq, fsize_sound hT hs, r1]
      · simpa [putL_length] using q3
      · simp only [List.toList_toArray]
        apply List.ext_getElem?
        intro j
        rw [List.getElem?_take, putL_get _ _ _ _ (by omega), putL_get _ _ _ _ (by omega)]
        by_cases hj : j < n * size
        · rw [if_pos hj]
          by_cases hj2 : o ≤ j ∧ j < o + (vcells v).length
          · rw [if_pos hj2, if_pos hj2]
          · rw [if_neg hj2, if_neg hj2, ← q5, List.getElem?_take, if_pos hj]
        · rw [if_neg hj, if_neg (by omega), List.getElem?_eq_none (by omega)])
end Eng
end Go.Proofs.Ytdfibmbedjpcgaa
