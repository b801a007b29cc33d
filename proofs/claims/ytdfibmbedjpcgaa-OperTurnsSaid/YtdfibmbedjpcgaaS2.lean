/- The table's Delete and Insert. -/
import Derived.Test.YtdfibmbedjpcgaaS1
set_option linter.unusedVariables false
set_option linter.unusedSimpArgs false
namespace Go.Proofs.Ytdfibmbedjpcgaa
open Go Go.RowKit Eng Ls

theorem cutA_zero (A : Option Addr) (m sz : Nat) : cutA A 0 m sz = A := by
  unfold cutA
  split
  · rfl
  · rw [Nat.zero_mul]; cases A <;> simp [Addr.add]
theorem W_append_none {X : Cx} {k : List It} {F : Fr} {L : List Ast} {T : Tab} (hT : TabOk X.P T) {all : Array Oper} {d : Nat} {s x : Operand} {t ty : TypeId} {pos : String} {af : Array Edge} {l : List Oper} {A A' : Option Addr} {n c m c' : Nat} {e size bytes : Nat} {z : Value}
    (hd : Nat.blt d X.n = true) (hs : ev F s = some (.slice A n c)) (hx : ev F x = some (.slice A' m c')) (ht : slT T t = some (e, size, bytes, z)) (hm : m = 0) (hnc : n ≤ c)
    (h : W X (.ops all l :: k) ((d, .slice A n c) :: F) L) :
    W X (.ops all (⟨some d, .call { callee := .builtin .append, args := #[s, x], argTypes := #[t, t] }, ty, pos, af, none⟩ :: l) :: k) F L := by
  subst hm
  refine W_val hd (fun a w ha hw => ?_) h
  have hS := slT_sound hT ht
  refine append_exec ha hs hx ?_
  obtain ⟨i, hi, hz, hsz, hby⟩ := hS.i
  subst hsz; subst hby
  have hf : (Builtin.firstCells i.size 0 (.slice A' 0 c')).run X.P w = .ok #[] w := by
    cases A' with
    | none => simp [Builtin.firstCells]
    | some b => exact run_firstCells_some w i.size 0 b 0 c' [] (by simp) (fun j v h => by simp at h)
  simp [Builtin.append_, run_underlying hS.u, sizeOf, typeInfo, hi, Builtin.lenOf, hf, hnc]
  cases A <;> simp [storeCells]
theorem tabAt {B : Nat} {w : World} {L : List Ast} (i : Nat) (h : Hp B w L) {b : Nat} {x : List Int} {m : Nat} (hi : L[i]? = some (tabA b x m)) : TabAt w b x := by
  obtain ⟨S, hS, _⟩ := h.nth i hi
  exact TabAt.of hS
def delR (R : List (Nat × Nat)) (a n : Nat) : List (Nat × Nat) :=
  (cutR (cutR R a).1 (a + n)).1.take (cutR R a).2 ++ (cutR (cutR R a).1 (a + n)).1.drop (cutR (cutR R a).1 (a + n)).2
theorem cut_ok {S : List Int} {R : List (Nat × Nat)} {x : List Int} {m a : Nat} (h : tabOk S R x m) (ha : a ≤ x.length) : tabOk S (cutR R a).1 x m ∧ flatS S ((cutR R a).1.take (cutR R a).2) = x.take a ∧ flatS S ((cutR R a).1.drop (cutR R a).2) = x.drop a ∧ (cutR R a).2 ≤ (cutR R a).1.length := by
  obtain ⟨h1, h2, h3, h4⟩ := cutR_all (S := S) (R := R) a h.pos (by rw [h.flat]; exact ha)
  rw [h.flat] at h1 h2
  refine ⟨⟨h.le, h.big, h3, h1⟩, h2, ?_, h4⟩
  have : flatS S ((cutR R a).1.take (cutR R a).2 ++ (cutR R a).1.drop (cutR R a).2) = x := by rw [List.take_append_drop]; exact h1
  rw [flatS_app, h2] at this
  have e : x.take a ++ flatS S ((cutR R a).1.drop (cutR R a).2) = x.take a ++ x.drop a := by rw [this, List.take_append_drop]
  exact List.append_cancel_left e
theorem del_ok {S : List Int} {R : List (Nat × Nat)} {x : List Int} {m a n : Nat} (h : tabOk S R x m) (ha : a + n ≤ x.length) : tabOk S (delR R a n) (x.take a ++ x.drop (a + n)) m := by
  obtain ⟨h1, h2, h3, h4⟩ := cut_ok h (a := a) (by omega)
  obtain ⟨g1, g2, g3, g4⟩ := cut_ok h1 (a := a + n) ha
  obtain ⟨k1, k2⟩ := cutR_two (R := R) a (a + n) (by omega)
  refine ⟨h.le, ?_, ?_, ?_⟩
  · have := h.big
    simp; omega
  · intro p hp
    rcases List.mem_append.1 hp with hp | hp
    · exact g1.pos p (List.mem_of_mem_take hp)
    · exact g1.pos p (List.mem_of_mem_drop hp)
  · unfold delR
    rw [flatS_app, k1, h2, g3]
attribute [local irreducible] Eng.W

set_option maxHeartbeats 4000000 in
theorem pDelete_c (B : Nat) (w : World) (b : Nat) (x : List Int) (m : Nat) (a n : Nat) (Lf : List Ast) (hB : B ≤ w.heap.size) (hL : Hp B w (tabA b x m :: Lf)) (ha : a + n ≤ x.length) (hx : x.length ≤ 65536) (hm : m ≤ 1099511627776) :
    Turn Try.prog 187 [.pointer (some ⟨b, 0, none⟩), .int .i64 (a : Nat), .int .i64 (n : Nat)] B w (fun v M => v = .int .i64 0 ∧ M = tabA b (x.take a ++ x.drop (a + n)) m :: Lf) := by
  refine enterT hB hL Try.func187 rfl Try.ntmps187 rfl rfl ?_
  repeat first
    | refine W_seq ?_
    | refine W_skip ?_
    | refine W_block ?_
    | refine W_blk ?_
    | refine W_exit (by rfl) ?_
    | refine W_region (by rfl) ?_
    | refine W_opsnil ?_
    | refine W_pure TOk (by rfl) (by first | trivial | (simp only [okI, and_true, true_and, and_self] <;> omega)) ?_
    | refine W_on (by rfl) (by rfl) (by rfl) ?_
    | refine W_off (by rfl) (by rfl) (by rfl) (by rfl) (by rfl) ?_
    | refine W_offU (by rfl) (by rfl) (by rfl) (by rfl) ?_
    | refine W_cond_t (by rfl) ?_
    | refine W_cond_f (by rfl) ?_
  refine W_callV (by rfl) Try.call186 (by rfl) (fun w1 hw => fits_c w1 b x a n (tabAt 0 hw.hp rfl) (by omega) (by omega) (by omega)) ?_
  repeat first
    | refine W_seq ?_
    | refine W_skip ?_
    | refine W_block ?_
    | refine W_blk ?_
    | refine W_exit (by rfl) ?_
    | refine W_region (by rfl) ?_
    | refine W_opsnil ?_
    | refine W_pure TOk (by rfl) (by first | trivial | (simp only [okI, and_true, true_and, and_self] <;> omega)) ?_
    | refine W_on (by rfl) (by rfl) (by rfl) ?_
    | refine W_off (by rfl) (by rfl) (by rfl) (by rfl) (by rfl) ?_
    | refine W_offU (by rfl) (by rfl) (by rfl) (by rfl) ?_
    | refine W_cond_t (by rfl) ?_
    | refine W_cond_f (by rfl) ?_
  refine W_cond_d (by rfl) (fun h0 => ?_) (fun h0 => ?_)
  · repeat first
      | refine W_seq ?_
      | refine W_skip ?_
      | refine W_block ?_
      | refine W_blk ?_
      | refine W_exit (by rfl) ?_
      | refine W_region (by rfl) ?_
      | refine W_opsnil ?_
      | refine W_pure TOk (by rfl) (by first | trivial | (simp only [okI, and_true, true_and, and_self] <;> omega)) ?_
      | refine W_on (by rfl) (by rfl) (by rfl) ?_
      | refine W_off (by rfl) (by rfl) (by rfl) (by rfl) (by rfl) ?_
      | refine W_offU (by rfl) (by rfl) (by rfl) (by rfl) ?_
      | refine W_cond_t (by rfl) ?_
      | refine W_cond_f (by rfl) ?_
    have e0 : n = 0 := by omega
    subst e0
    exact W_retT (vs := [_]) ⟨rfl, trivial⟩ (Ent.refl _) ⟨rfl, by rw [Nat.add_zero, List.take_append_drop]⟩
  · refine W_tab (fun S sA sc R rA rc hok => ?_)
    obtain ⟨o1, o2, o3, o4⟩ := cut_ok hok (a := a) (by omega)
    obtain ⟨g1, g2, g3, g4⟩ := cut_ok o1 (a := a + n) ha
    obtain ⟨k1, k2⟩ := cutR_two (R := R) a (a + n) (by omega)
    repeat first
      | refine W_seq ?_
      | refine W_skip ?_
      | refine W_block ?_
      | refine W_blk ?_
      | refine W_exit (by rfl) ?_
      | refine W_region (by rfl) ?_
      | refine W_opsnil ?_
      | refine W_pure TOk (by rfl) (by first | trivial | (simp only [okI, and_true, true_and, and_self] <;> omega)) ?_
      | refine W_on (by rfl) (by rfl) (by rfl) ?_
      | refine W_off (by rfl) (by rfl) (by rfl) (by rfl) (by rfl) ?_
      | refine W_offU (by rfl) (by rfl) (by rfl) (by rfl) ?_
      | refine W_cond_t (by rfl) ?_
      | refine W_cond_f (by rfl) ?_
    refine W_turn _ (by rfl) Try.call209 (by rfl) (fun w1 hw => cut_c _ w1 b x S sA sc R rA rc m a Lf hw.le hw.hp hok (by omega) hm) ?_
    rintro _ _ ⟨rA1, rc1, rfl, rfl⟩
    repeat first
      | refine W_seq ?_
      | refine W_skip ?_
      | refine W_block ?_
      | refine W_blk ?_
      | refine W_exit (by rfl) ?_
      | refine W_region (by rfl) ?_
      | refine W_opsnil ?_
      | refine W_pure TOk (by rfl) (by first | trivial | (simp only [okI, and_true, true_and, and_self] <;> omega)) ?_
      | refine W_on (by rfl) (by rfl) (by rfl) ?_
      | refine W_off (by rfl) (by rfl) (by rfl) (by rfl) (by rfl) ?_
      | refine W_offU (by rfl) (by rfl) (by rfl) (by rfl) ?_
      | refine W_cond_t (by rfl) ?_
      | refine W_cond_f (by rfl) ?_
    refine W_turn _ (by rfl) Try.call209 (by rfl) (fun w1 hw => cut_c _ w1 b x S sA sc _ rA1 rc1 m (a + n) Lf hw.le hw.hp o1 (by omega) hm) ?_
    rintro _ _ ⟨rA2, rc2, rfl, rfl⟩
    unfold tabO
    have hd := del_ok hok ha
    have hrl := rows_le g1.pos
    rw [g1.flat] at hrl
    have hdR : delR R a n = (cutR (cutR R a).1 (a + n)).1.take (cutR R a).2 ++ (cutR (cutR R a).1 (a + n)).1.drop (cutR (cutR R a).1 (a + n)).2 := rfl
    generalize (cutR R a).2 = i at *
    generalize (cutR (cutR R a).1 (a + n)).2 = k at *
    generalize (cutR (cutR R a).1 (a + n)).1 = R2 at *
    refine W_ownlen 2 (by rfl) (fun hq1 hq2 hq3 => ?_)
    unfold maxLen at hq3
    repeat first
      | refine W_seq ?_
      | refine W_skip ?_
      | refine W_block ?_
      | refine W_blk ?_
      | refine W_exit (by rfl) ?_
      | refine W_region (by rfl) ?_
      | refine W_opsnil ?_
      | refine W_pure TOk (by rfl) (by first | trivial | (simp only [okI, and_true, true_and, and_self] <;> omega)) ?_
      | refine W_on (by rfl) (by rfl) (by rfl) ?_
      | refine W_off (by rfl) (by rfl) (by rfl) (by rfl) (by rfl) ?_
      | refine W_offU (by rfl) (by rfl) (by rfl) (by rfl) ?_
      | refine W_cond_t (by rfl) ?_
      | refine W_cond_f (by rfl) ?_
    refine W_draw (fun w1 => St _ _ w1 _) [17] [(0, 0), (1, 0), (2, 0), (3, 0), (4, 0), (5, 0), (6, 0), (7, 0), (8, 0), (9, 0), (10, 0), (11, 0), (12, 0), (13, 0), (14, 1), (15, 0), (16, 0), (17, 2)] (by kernel_rfl) (fun _ h => h) (by rfl) (by kernel_rfl) (fun hB => ?_)
    repeat first
      | refine D_pure TOk (by kernel_rfl) hB (by rfl) (by rfl) (by first | trivial | (simp only [okI, and_true, true_and, and_self] <;> omega)) (fun hB => ?_)
      | refine D_done hB ?_
      | refine D_shown (fun _ h => h) ?_
      | refine D_shown (fun _ h => h.ent (Ent.drop1 _ _)) ?_
      | refine D_load_box 0 TOk (by kernel_rfl) hB (by rfl) (by rfl) (by rfl) (by rfl) (by rfl) (fun _ h => h) (by rfl) (by rfl) (fun hB => ?_)
      | refine D_load_boxN 0 TOk (by kernel_rfl) hB (by rfl) (by rfl) (by rfl) (by rfl) (by rfl) (by rfl) (fun _ h => h) (by rfl) (fun hB => ?_)
    simp only [Int.toNat_natCast, Int.toNat_zero, Nat.sub_zero]
    rw [cutA_zero]
    have hti : (R2.take i).length = i := by rw [List.length_take]; omega
    have hdl : (R2.drop k).length = R2.length - k := List.length_drop
    have hxl : (x.take a ++ x.drop (a + n)).length = x.length - n := by simp; omega
    have hsub : ((x.length : Int) - (n : Int)) = (((x.take a ++ x.drop (a + n)).length : Nat) : Int) := by omega
    refine D_one hB (by rfl) (fun hB => ?_)
    by_cases hk : k = R2.length
    · refine W_append_none TOk (by rfl) (by rfl) (by rfl) sl223 (by omega) (Nat.le_refl _) ?_
      repeat first
        | refine W_seq ?_
        | refine W_skip ?_
        | refine W_block ?_
        | refine W_blk ?_
        | refine W_exit (by rfl) ?_
        | refine W_region (by rfl) ?_
        | refine W_opsnil ?_
        | refine W_pure TOk (by rfl) (by first | trivial | (simp only [okI, and_true, true_and, and_self] <;> omega)) ?_
        | refine W_on (by rfl) (by rfl) (by rfl) ?_
        | refine W_off (by rfl) (by rfl) (by rfl) (by rfl) (by rfl) ?_
        | refine W_offU (by rfl) (by rfl) (by rfl) (by rfl) ?_
        | refine W_cond_t (by rfl) ?_
        | refine W_cond_f (by rfl) ?_
      repeat first
        | refine D_pure TOk (by kernel_rfl) hB (by rfl) (by rfl) (by first | trivial | (simp only [okI, and_true, true_and, and_self] <;> omega)) (fun hB => ?_)
        | refine D_done hB ?_
        | refine D_shown (fun _ h => h) ?_
        | refine D_shown (fun _ h => h.ent (Ent.drop1 _ _)) ?_
        | refine D_load_box 0 TOk (by kernel_rfl) hB (by rfl) (by rfl) (by rfl) (by rfl) (by rfl) (fun _ h => h) (by rfl) (by rfl) (fun hB => ?_)
        | refine D_load_boxN 0 TOk (by kernel_rfl) hB (by rfl) (by rfl) (by rfl) (by rfl) (by rfl) (by rfl) (fun _ h => h) (by rfl) (fun hB => ?_)
      refine D_last hB (by rfl) (fun hB => ?_)
      repeat first
        | refine W_seq ?_
        | refine W_skip ?_
        | refine W_block ?_
        | refine W_blk ?_
        | refine W_exit (by rfl) ?_
        | refine W_region (by rfl) ?_
        | refine W_opsnil ?_
        | refine W_pure TOk (by rfl) (by first | trivial | (simp only [okI, and_true, true_and, and_self] <;> omega)) ?_
        | refine W_on (by rfl) (by rfl) (by rfl) ?_
        | refine W_off (by rfl) (by rfl) (by rfl) (by rfl) (by rfl) ?_
        | refine W_offU (by rfl) (by rfl) (by rfl) (by rfl) ?_
        | refine W_cond_t (by rfl) ?_
        | refine W_cond_f (by rfl) ?_
        | refine W_load_box 0 TOk (by rfl) (by rfl) (by rfl) (by rfl) (by rfl) ?_
        | refine W_load_boxN 0 TOk (by rfl) (by rfl) (by rfl) (by rfl) (by rfl) ?_
        | (refine W_store_box 0 TOk (by rfl) (by rfl) (by rfl) (by rfl) (by rfl) (by rfl) ?_; dsimp only [setL, putL, vcells])
      repeat first
        | refine D_pure TOk (by kernel_rfl) hB (by rfl) (by rfl) (by first | trivial | (simp only [okI, and_true, true_and, and_self] <;> omega)) (fun hB => ?_)
        | refine D_done hB ?_
        | refine D_shown (fun _ h => h) ?_
        | refine D_shown (fun _ h => h.ent (Ent.drop1 _ _)) ?_
        | refine D_load_box 0 TOk (by kernel_rfl) hB (by rfl) (by rfl) (by rfl) (by rfl) (by rfl) (fun _ h => h) (by rfl) (by rfl) (fun hB => ?_)
        | refine D_load_boxN 0 TOk (by kernel_rfl) hB (by rfl) (by rfl) (by rfl) (by rfl) (by rfl) (by rfl) (fun _ h => h) (by rfl) (fun hB => ?_)
      repeat first
        | refine W_seq ?_
        | refine W_skip ?_
        | refine W_block ?_
        | refine W_blk ?_
        | refine W_exit (by rfl) ?_
        | refine W_region (by rfl) ?_
        | refine W_opsnil ?_
        | refine W_pure TOk (by rfl) (by first | trivial | (simp only [okI, and_true, true_and, and_self] <;> omega)) ?_
        | refine W_on (by rfl) (by rfl) (by rfl) ?_
        | refine W_off (by rfl) (by rfl) (by rfl) (by rfl) (by rfl) ?_
        | refine W_offU (by rfl) (by rfl) (by rfl) (by rfl) ?_
        | refine W_cond_t (by rfl) ?_
        | refine W_cond_f (by rfl) ?_
        | refine W_load_box 0 TOk (by rfl) (by rfl) (by rfl) (by rfl) (by rfl) ?_
        | refine W_load_boxN 0 TOk (by rfl) (by rfl) (by rfl) (by rfl) (by rfl) ?_
        | (refine W_store_box 0 TOk (by rfl) (by rfl) (by rfl) (by rfl) (by rfl) (by rfl) ?_; dsimp only [setL, putL, vcells])
      rw [hsub]
      refine W_retT (vs := [_]) ⟨rfl, trivial⟩ ?_ ⟨rfl, rfl⟩
      have hR : delR R a n = R2.take i := by rw [hdR, hk, List.drop_length, List.append_nil]
      rw [hR] at hd
      refine Ent.trans ?_ (Ent.tab_in (S, sA, sc, R2.take i, rA2, i) hd Lf)
      unfold tabL
      dsimp only [List.cons_append, List.nil_append]
      rw [hti, ← spanC_take]
      exact Ent.cons _ (Ent.cons _ (Ent.own_cut (n' := i) (c' := i) (by omega) (by omega) (by omega) _))
    · refine W_append_new TOk (by rfl) (by rfl) (by rfl) sl223 (fun w1 hw => (hw.hp.cells 2 rfl).take (i * 2)) (by rw [spanC_take, spanC_length, hti]) (fun w1 hw => span_drop (hw.hp.cells 2 rfl) k rc2 hq2) (by rw [spanC_length, hdl]) (by omega) (by unfold maxLen; omega) (by omega) (fun A3 c3 => ?_)
      repeat first
        | refine W_seq ?_
        | refine W_skip ?_
        | refine W_block ?_
        | refine W_blk ?_
        | refine W_exit (by rfl) ?_
        | refine W_region (by rfl) ?_
        | refine W_opsnil ?_
        | refine W_pure TOk (by rfl) (by first | trivial | (simp only [okI, and_true, true_and, and_self] <;> omega)) ?_
        | refine W_on (by rfl) (by rfl) (by rfl) ?_
        | refine W_off (by rfl) (by rfl) (by rfl) (by rfl) (by rfl) ?_
        | refine W_offU (by rfl) (by rfl) (by rfl) (by rfl) ?_
        | refine W_cond_t (by rfl) ?_
        | refine W_cond_f (by rfl) ?_
      repeat first
        | refine D_pure TOk (by kernel_rfl) hB (by rfl) (by rfl) (by first | trivial | (simp only [okI, and_true, true_and, and_self] <;> omega)) (fun hB => ?_)
        | refine D_done hB ?_
        | refine D_shown (fun _ h => h) ?_
        | refine D_shown (fun _ h => h.ent (Ent.drop1 _ _)) ?_
        | refine D_load_box 0 TOk (by kernel_rfl) hB (by rfl) (by rfl) (by rfl) (by rfl) (by rfl) (fun _ h => h) (by rfl) (by rfl) (fun hB => ?_)
        | refine D_load_boxN 0 TOk (by kernel_rfl) hB (by rfl) (by rfl) (by rfl) (by rfl) (by rfl) (by rfl) (fun _ h => h) (by rfl) (fun hB => ?_)
      refine D_last hB (by rfl) (fun hB => ?_)
      repeat first
        | refine W_seq ?_
        | refine W_skip ?_
        | refine W_block ?_
        | refine W_blk ?_
        | refine W_exit (by rfl) ?_
        | refine W_region (by rfl) ?_
        | refine W_opsnil ?_
        | refine W_pure TOk (by rfl) (by first | trivial | (simp only [okI, and_true, true_and, and_self] <;> omega)) ?_
        | refine W_on (by rfl) (by rfl) (by rfl) ?_
        | refine W_off (by rfl) (by rfl) (by rfl) (by rfl) (by rfl) ?_
        | refine W_offU (by rfl) (by rfl) (by rfl) (by rfl) ?_
        | refine W_cond_t (by rfl) ?_
        | refine W_cond_f (by rfl) ?_
        | refine W_load_box 0 TOk (by rfl) (by rfl) (by rfl) (by rfl) (by rfl) ?_
        | refine W_load_box 1 TOk (by rfl) (by rfl) (by rfl) (by rfl) (by rfl) ?_
        | refine W_load_boxN 0 TOk (by rfl) (by rfl) (by rfl) (by rfl) (by rfl) ?_
        | refine W_load_boxN 1 TOk (by rfl) (by rfl) (by rfl) (by rfl) (by rfl) ?_
        | (refine W_store_box 0 TOk (by rfl) (by rfl) (by rfl) (by rfl) (by rfl) (by rfl) ?_; dsimp only [setL, putL, vcells])
        | (refine W_store_box 1 TOk (by rfl) (by rfl) (by rfl) (by rfl) (by rfl) (by rfl) ?_; dsimp only [setL, putL, vcells])
      repeat first
        | refine D_pure TOk (by kernel_rfl) hB (by rfl) (by rfl) (by first | trivial | (simp only [okI, and_true, true_and, and_self] <;> omega)) (fun hB => ?_)
        | refine D_done hB ?_
        | refine D_shown (fun _ h => h) ?_
        | refine D_shown (fun _ h => h.ent (Ent.drop1 _ _)) ?_
        | refine D_load_box 0 TOk (by kernel_rfl) hB (by rfl) (by rfl) (by rfl) (by rfl) (by rfl) (fun _ h => h) (by rfl) (by rfl) (fun hB => ?_)
        | refine D_load_box 1 TOk (by kernel_rfl) hB (by rfl) (by rfl) (by rfl) (by rfl) (by rfl) (fun _ h => h) (by rfl) (by rfl) (fun hB => ?_)
        | refine D_load_boxN 0 TOk (by kernel_rfl) hB (by rfl) (by rfl) (by rfl) (by rfl) (by rfl) (by rfl) (fun _ h => h) (by rfl) (fun hB => ?_)
        | refine D_load_boxN 1 TOk (by kernel_rfl) hB (by rfl) (by rfl) (by rfl) (by rfl) (by rfl) (by rfl) (fun _ h => h) (by rfl) (fun hB => ?_)
      repeat first
        | refine W_seq ?_
        | refine W_skip ?_
        | refine W_block ?_
        | refine W_blk ?_
        | refine W_exit (by rfl) ?_
        | refine W_region (by rfl) ?_
        | refine W_opsnil ?_
        | refine W_pure TOk (by rfl) (by first | trivial | (simp only [okI, and_true, true_and, and_self] <;> omega)) ?_
        | refine W_on (by rfl) (by rfl) (by rfl) ?_
        | refine W_off (by rfl) (by rfl) (by rfl) (by rfl) (by rfl) ?_
        | refine W_offU (by rfl) (by rfl) (by rfl) (by rfl) ?_
        | refine W_cond_t (by rfl) ?_
        | refine W_cond_f (by rfl) ?_
        | refine W_load_box 0 TOk (by rfl) (by rfl) (by rfl) (by rfl) (by rfl) ?_
        | refine W_load_box 1 TOk (by rfl) (by rfl) (by rfl) (by rfl) (by rfl) ?_
        | refine W_load_boxN 0 TOk (by rfl) (by rfl) (by rfl) (by rfl) (by rfl) ?_
        | refine W_load_boxN 1 TOk (by rfl) (by rfl) (by rfl) (by rfl) (by rfl) ?_
        | (refine W_store_box 0 TOk (by rfl) (by rfl) (by rfl) (by rfl) (by rfl) (by rfl) ?_; dsimp only [setL, putL, vcells])
        | (refine W_store_box 1 TOk (by rfl) (by rfl) (by rfl) (by rfl) (by rfl) (by rfl) ?_; dsimp only [setL, putL, vcells])
      rw [hsub]
      refine W_retT (vs := [_]) ⟨rfl, trivial⟩ ?_ ⟨rfl, rfl⟩
      refine Ent.trans ?_ (Ent.tab_in (S, sA, sc, delR R a n, A3, c3) hd Lf)
      have hl : (delR R a n).length = i + (R2.length - k) := by rw [hdR, List.length_append, hti, hdl]
      have hc : spanC (delR R a n) = (spanC R2).take (i * 2) ++ spanC (R2.drop k) := by rw [hdR, spanC_app, spanC_take]
      unfold tabL
      dsimp only [List.cons_append, List.nil_append]
      rw [hl, hc]
      exact (Ent.pk 1 (by rfl)).trans (Ent.cons _ ((Ent.pk 1 (by rfl)).trans (Ent.cons _ (Ent.snd _ _ _))))

def insR (S : List Int) (R : List (Nat × Nat)) (a n : Nat) : List (Nat × Nat) := (cutR R a).1.take (cutR R a).2 ++ [(S.length, n)] ++ (cutR R a).1.drop (cutR R a).2
theorem ins_ok {S l : List Int} {R : List (Nat × Nat)} {x : List Int} {m a : Nat} (h : tabOk S R x m) (ha : a ≤ x.length) (hl : 0 < l.length) (hb : l.length + x.length ≤ 65536) : tabOk (S ++ l) (insR S R a l.length) (x.take a ++ l ++ x.drop a) (m + l.length) := by
  obtain ⟨h1, h2, h3, h4⟩ := cut_ok h (a := a) ha
  have hp1 : ∀ p ∈ (cutR R a).1.take (cutR R a).2, 0 < p.2 ∧ p.1 + p.2 ≤ S.length := fun p hp => h1.pos p (List.mem_of_mem_take hp)
  have hp2 : ∀ p ∈ (cutR R a).1.drop (cutR R a).2, 0 < p.2 ∧ p.1 + p.2 ≤ S.length := fun p hp => h1.pos p (List.mem_of_mem_drop hp)
  refine ⟨?_, ?_, ?_, ?_⟩
  · have := h.le
    rw [List.length_append]; omega
  · simp; omega
  · intro p hp
    rw [List.length_append]
    rcases List.mem_append.1 hp with hp | hp
    · rcases List.mem_append.1 hp with hp | hp
      · have := hp1 p hp; omega
      · have : p = (S.length, l.length) := by simpa using hp
        subst this
        dsimp only
        omega
    · have := hp2 p hp; omega
  · unfold insR
    rw [flatS_app, flatS_app, flatS_mono hp1, flatS_mono hp2, h2, h3]
    congr 2
    simp [flatS]
set_option maxHeartbeats 4000000 in
theorem pInsert_c (B : Nat) (w : World) (b : Nat) (x : List Int) (m : Nat) (a : Nat) (A0 : Option Addr) (c0 : Nat) (l : List Int) (Lf : List Ast) (hB : B ≤ w.heap.size) (hL : Hp B w (tabA b x m :: Lf)) (hr : Reads B w Lf A0 (i32s l)) (ha : a ≤ x.length) (hx : l.length + x.length ≤ 65536) (hm : m ≤ 1099511627776) :
    Turn Try.prog 188 [.pointer (some ⟨b, 0, none⟩), .int .i64 (a : Nat), .slice A0 l.length c0] B w (fun v M => v = .int .i64 0 ∧ M = tabA b (x.take a ++ l ++ x.drop a) (m + l.length) :: Lf) := by
  refine enterT hB hL Try.func188 rfl Try.ntmps188 rfl rfl ?_
  refine W_tab (fun S sA sc R rA rc hok => ?_)
  have hSm := hok.le
  repeat first
    | refine W_seq ?_
    | refine W_skip ?_
    | refine W_block ?_
    | refine W_blk ?_
    | refine W_exit (by rfl) ?_
    | refine W_region (by rfl) ?_
    | refine W_opsnil ?_
    | refine W_pure TOk (by rfl) (by first | trivial | (simp only [okI, and_true, true_and, and_self] <;> omega)) ?_
    | refine W_on (by rfl) (by rfl) (by rfl) ?_
    | refine W_off (by rfl) (by rfl) (by rfl) (by rfl) (by rfl) ?_
    | refine W_offU (by rfl) (by rfl) (by rfl) (by rfl) ?_
    | refine W_cond_t (by rfl) ?_
    | refine W_cond_f (by rfl) ?_
    | refine W_load_box 0 TOk (by rfl) (by rfl) (by rfl) (by rfl) (by rfl) ?_
    | refine W_load_boxN 0 TOk (by rfl) (by rfl) (by rfl) (by rfl) (by rfl) ?_
    | (refine W_store_box 0 TOk (by rfl) (by rfl) (by rfl) (by rfl) (by rfl) (by rfl) ?_; dsimp only [setL, putL, vcells])
  refine W_dec 16 (by rfl) (fun h => absurd (of_decide_eq_true h) (by omega)) (fun _ => ?_)
  repeat first
    | refine W_seq ?_
    | refine W_skip ?_
    | refine W_block ?_
    | refine W_blk ?_
    | refine W_exit (by rfl) ?_
    | refine W_region (by rfl) ?_
    | refine W_opsnil ?_
    | refine W_pure TOk (by rfl) (by first | trivial | (simp only [okI, and_true, true_and, and_self] <;> omega)) ?_
    | refine W_on (by rfl) (by rfl) (by rfl) ?_
    | refine W_off (by rfl) (by rfl) (by rfl) (by rfl) (by rfl) ?_
    | refine W_offU (by rfl) (by rfl) (by rfl) (by rfl) ?_
    | refine W_cond_t (by rfl) ?_
    | refine W_cond_f (by rfl) ?_
    | refine W_load_box 0 TOk (by rfl) (by rfl) (by rfl) (by rfl) (by rfl) ?_
    | refine W_load_boxN 0 TOk (by rfl) (by rfl) (by rfl) (by rfl) (by rfl) ?_
    | (refine W_store_box 0 TOk (by rfl) (by rfl) (by rfl) (by rfl) (by rfl) (by rfl) ?_; dsimp only [setL, putL, vcells])
  refine W_cond_d (by rfl) (fun h => absurd h (by omega)) (fun _ => ?_)
  repeat first
    | refine W_seq ?_
    | refine W_skip ?_
    | refine W_block ?_
    | refine W_blk ?_
    | refine W_exit (by rfl) ?_
    | refine W_region (by rfl) ?_
    | refine W_opsnil ?_
    | refine W_pure TOk (by rfl) (by first | trivial | (simp only [okI, and_true, true_and, and_self] <;> omega)) ?_
    | refine W_on (by rfl) (by rfl) (by rfl) ?_
    | refine W_off (by rfl) (by rfl) (by rfl) (by rfl) (by rfl) ?_
    | refine W_offU (by rfl) (by rfl) (by rfl) (by rfl) ?_
    | refine W_cond_t (by rfl) ?_
    | refine W_cond_f (by rfl) ?_
    | refine W_load_box 0 TOk (by rfl) (by rfl) (by rfl) (by rfl) (by rfl) ?_
    | refine W_load_boxN 0 TOk (by rfl) (by rfl) (by rfl) (by rfl) (by rfl) ?_
    | (refine W_store_box 0 TOk (by rfl) (by rfl) (by rfl) (by rfl) (by rfl) (by rfl) ?_; dsimp only [setL, putL, vcells])
  refine W_cond_d (by rfl) (fun h => absurd h (by omega)) (fun _ => ?_)
  repeat first
    | refine W_seq ?_
    | refine W_skip ?_
    | refine W_block ?_
    | refine W_blk ?_
    | refine W_exit (by rfl) ?_
    | refine W_region (by rfl) ?_
    | refine W_opsnil ?_
    | refine W_pure TOk (by rfl) (by first | trivial | (simp only [okI, and_true, true_and, and_self] <;> omega)) ?_
    | refine W_on (by rfl) (by rfl) (by rfl) ?_
    | refine W_off (by rfl) (by rfl) (by rfl) (by rfl) (by rfl) ?_
    | refine W_offU (by rfl) (by rfl) (by rfl) (by rfl) ?_
    | refine W_cond_t (by rfl) ?_
    | refine W_cond_f (by rfl) ?_
    | refine W_load_box 0 TOk (by rfl) (by rfl) (by rfl) (by rfl) (by rfl) ?_
    | refine W_load_boxN 0 TOk (by rfl) (by rfl) (by rfl) (by rfl) (by rfl) ?_
    | (refine W_store_box 0 TOk (by rfl) (by rfl) (by rfl) (by rfl) (by rfl) (by rfl) ?_; dsimp only [setL, putL, vcells])
  refine W_cond_d (by rfl) (fun h0 => ?_) (fun h0 => ?_)
  · repeat first
      | refine W_seq ?_
      | refine W_skip ?_
      | refine W_block ?_
      | refine W_blk ?_
      | refine W_exit (by rfl) ?_
      | refine W_region (by rfl) ?_
      | refine W_opsnil ?_
      | refine W_pure TOk (by rfl) (by first | trivial | (simp only [okI, and_true, true_and, and_self] <;> omega)) ?_
      | refine W_on (by rfl) (by rfl) (by rfl) ?_
      | refine W_off (by rfl) (by rfl) (by rfl) (by rfl) (by rfl) ?_
      | refine W_offU (by rfl) (by rfl) (by rfl) (by rfl) ?_
      | refine W_cond_t (by rfl) ?_
      | refine W_cond_f (by rfl) ?_
      | refine W_load_box 0 TOk (by rfl) (by rfl) (by rfl) (by rfl) (by rfl) ?_
      | refine W_load_boxN 0 TOk (by rfl) (by rfl) (by rfl) (by rfl) (by rfl) ?_
      | (refine W_store_box 0 TOk (by rfl) (by rfl) (by rfl) (by rfl) (by rfl) (by rfl) ?_; dsimp only [setL, putL, vcells])
    have e0 : l = [] := List.eq_nil_of_length_eq_zero (by omega)
    subst e0
    refine W_retT (vs := [_]) ⟨rfl, trivial⟩ (Ent.tab_in (S, sA, sc, R, rA, rc) hok Lf) ⟨rfl, by simp [List.take_append_drop]⟩
  · have hi := ins_ok (l := l) hok ha (by omega) hx
    obtain ⟨o1, o2, o3, o4⟩ := cut_ok hok (a := a) ha
    repeat first
      | refine W_seq ?_
      | refine W_skip ?_
      | refine W_block ?_
      | refine W_blk ?_
      | refine W_exit (by rfl) ?_
      | refine W_region (by rfl) ?_
      | refine W_opsnil ?_
      | refine W_pure TOk (by rfl) (by first | trivial | (simp only [okI, and_true, true_and, and_self] <;> omega)) ?_
      | refine W_on (by rfl) (by rfl) (by rfl) ?_
      | refine W_off (by rfl) (by rfl) (by rfl) (by rfl) (by rfl) ?_
      | refine W_offU (by rfl) (by rfl) (by rfl) (by rfl) ?_
      | refine W_cond_t (by rfl) ?_
      | refine W_cond_f (by rfl) ?_
      | refine W_load_box 0 TOk (by rfl) (by rfl) (by rfl) (by rfl) (by rfl) ?_
      | refine W_load_boxN 0 TOk (by rfl) (by rfl) (by rfl) (by rfl) (by rfl) ?_
      | (refine W_store_box 0 TOk (by rfl) (by rfl) (by rfl) (by rfl) (by rfl) (by rfl) ?_; dsimp only [setL, putL, vcells])
    refine W_turn _ (by rfl) Try.call209 (by rfl) (fun w1 hw => cut_c _ w1 b x S sA sc R rA rc m a Lf hw.le hw.hp hok (by omega) hm) ?_
    rintro _ _ ⟨rA1, rc1, rfl, rfl⟩
    unfold tabO
    have hrl := rows_le o1.pos
    rw [o1.flat] at hrl
    have hiR : insR S R a l.length = (cutR R a).1.take (cutR R a).2 ++ [(S.length, l.length)] ++ (cutR R a).1.drop (cutR R a).2 := rfl
    generalize (cutR R a).2 = i at *
    generalize (cutR R a).1 = R1 at *
    refine W_ownlen 2 (by rfl) (fun hq1 hq2 hq3 => ?_)
    unfold maxLen at hq3
    have hti : (R1.take i).length = i := by rw [List.length_take]; omega
    have hdl : (R1.drop i).length = R1.length - i := List.length_drop
    repeat first
      | refine W_seq ?_
      | refine W_skip ?_
      | refine W_block ?_
      | refine W_blk ?_
      | refine W_exit (by rfl) ?_
      | refine W_region (by rfl) ?_
      | refine W_opsnil ?_
      | refine W_pure TOk (by rfl) (by first | trivial | (simp only [okI, and_true, true_and, and_self] <;> omega)) ?_
      | refine W_on (by rfl) (by rfl) (by rfl) ?_
      | refine W_off (by rfl) (by rfl) (by rfl) (by rfl) (by rfl) ?_
      | refine W_offU (by rfl) (by rfl) (by rfl) (by rfl) ?_
      | refine W_cond_t (by rfl) ?_
      | refine W_cond_f (by rfl) ?_
      | refine W_load_box 0 TOk (by rfl) (by rfl) (by rfl) (by rfl) (by rfl) ?_
      | refine W_load_boxN 0 TOk (by rfl) (by rfl) (by rfl) (by rfl) (by rfl) ?_
      | (refine W_store_box 0 TOk (by rfl) (by rfl) (by rfl) (by rfl) (by rfl) (by rfl) ?_; dsimp only [setL, putL, vcells])
    refine W_alloc (cs := [_, _]) TOk (by rfl) (by rfl) (fun b2 => ?_)
    repeat first
      | refine W_seq ?_
      | refine W_skip ?_
      | refine W_block ?_
      | refine W_blk ?_
      | refine W_exit (by rfl) ?_
      | refine W_region (by rfl) ?_
      | refine W_opsnil ?_
      | refine W_pure TOk (by rfl) (by first | trivial | (simp only [okI, and_true, true_and, and_self] <;> omega)) ?_
      | refine W_on (by rfl) (by rfl) (by rfl) ?_
      | refine W_off (by rfl) (by rfl) (by rfl) (by rfl) (by rfl) ?_
      | refine W_offU (by rfl) (by rfl) (by rfl) (by rfl) ?_
      | refine W_cond_t (by rfl) ?_
      | refine W_cond_f (by rfl) ?_
      | refine W_load_box 0 TOk (by rfl) (by rfl) (by rfl) (by rfl) (by rfl) ?_
      | refine W_load_box 1 TOk (by rfl) (by rfl) (by rfl) (by rfl) (by rfl) ?_
      | refine W_load_boxN 0 TOk (by rfl) (by rfl) (by rfl) (by rfl) (by rfl) ?_
      | refine W_load_boxN 1 TOk (by rfl) (by rfl) (by rfl) (by rfl) (by rfl) ?_
      | (refine W_store_box 0 TOk (by rfl) (by rfl) (by rfl) (by rfl) (by rfl) (by rfl) ?_; dsimp only [setL, putL, vcells])
      | (refine W_store_box 1 TOk (by rfl) (by rfl) (by rfl) (by rfl) (by rfl) (by rfl) ?_; dsimp only [setL, putL, vcells])
    refine W_append_own 2 TOk (by rfl) (by rfl) (by rfl) sl48 (by rfl) (fun w1 hw => hr w1 hw.below (hw.hp.ent ((Ent.drop2 _ _ _).trans (Ent.drop2 _ _ _)))) (by rw [i32s_length, Nat.mul_one]) (by first | exact i32s_one _ | exact i64s_one _ | exact one_of _ rfl) (by unfold maxLen; omega) (by omega) (fun A2 c2 => ?_); dsimp only [setL]
    repeat first
      | refine W_seq ?_
      | refine W_skip ?_
      | refine W_block ?_
      | refine W_blk ?_
      | refine W_exit (by rfl) ?_
      | refine W_region (by rfl) ?_
      | refine W_opsnil ?_
      | refine W_pure TOk (by rfl) (by first | trivial | (simp only [okI, and_true, true_and, and_self] <;> omega)) ?_
      | refine W_on (by rfl) (by rfl) (by rfl) ?_
      | refine W_off (by rfl) (by rfl) (by rfl) (by rfl) (by rfl) ?_
      | refine W_offU (by rfl) (by rfl) (by rfl) (by rfl) ?_
      | refine W_cond_t (by rfl) ?_
      | refine W_cond_f (by rfl) ?_
      | refine W_load_box 0 TOk (by rfl) (by rfl) (by rfl) (by rfl) (by rfl) ?_
      | refine W_load_box 1 TOk (by rfl) (by rfl) (by rfl) (by rfl) (by rfl) ?_
      | refine W_load_boxN 0 TOk (by rfl) (by rfl) (by rfl) (by rfl) (by rfl) ?_
      | refine W_load_boxN 1 TOk (by rfl) (by rfl) (by rfl) (by rfl) (by rfl) ?_
      | (refine W_store_box 0 TOk (by rfl) (by rfl) (by rfl) (by rfl) (by rfl) (by rfl) ?_; dsimp only [setL, putL, vcells])
      | (refine W_store_box 1 TOk (by rfl) (by rfl) (by rfl) (by rfl) (by rfl) (by rfl) ?_; dsimp only [setL, putL, vcells])
    refine W_draw (fun w1 => St _ _ w1 _) [9] [(0, 0), (1, 0), (2, 0), (3, 0), (4, 0), (5, 0), (6, 0), (7, 0), (8, 1), (9, 2), (10, 0)] (by kernel_rfl) (fun _ h => h) (by rfl) (by kernel_rfl) (fun hB => ?_)
    repeat first
      | refine D_pure TOk (by kernel_rfl) hB (by rfl) (by rfl) (by first | trivial | (simp only [okI, and_true, true_and, and_self] <;> omega)) (fun hB => ?_)
      | refine D_done hB ?_
      | refine D_shown (fun _ h => h) ?_
      | refine D_shown (fun _ h => h.ent (Ent.drop1 _ _)) ?_
      | refine D_load_box 0 TOk (by kernel_rfl) hB (by rfl) (by rfl) (by rfl) (by rfl) (by rfl) (fun _ h => h) (by rfl) (by rfl) (fun hB => ?_)
      | refine D_load_box 1 TOk (by kernel_rfl) hB (by rfl) (by rfl) (by rfl) (by rfl) (by rfl) (fun _ h => h) (by rfl) (by rfl) (fun hB => ?_)
      | refine D_load_boxN 0 TOk (by kernel_rfl) hB (by rfl) (by rfl) (by rfl) (by rfl) (by rfl) (by rfl) (fun _ h => h) (by rfl) (fun hB => ?_)
      | refine D_load_boxN 1 TOk (by kernel_rfl) hB (by rfl) (by rfl) (by rfl) (by rfl) (by rfl) (by rfl) (fun _ h => h) (by rfl) (fun hB => ?_)
    simp only [Int.toNat_natCast, Int.toNat_zero, Nat.sub_zero]
    rw [cutA_zero]
    refine D_one hB (by rfl) (fun hB => ?_)
    refine W_lit TOk (cs := [_, _]) (by rfl) sl223 (by rfl) (by rfl) (by rfl) (by rfl) (fun g1 => ?_)
    repeat first
      | refine W_seq ?_
      | refine W_skip ?_
      | refine W_block ?_
      | refine W_blk ?_
      | refine W_exit (by rfl) ?_
      | refine W_region (by rfl) ?_
      | refine W_opsnil ?_
      | refine W_pure TOk (by rfl) (by first | trivial | (simp only [okI, and_true, true_and, and_self] <;> omega)) ?_
      | refine W_on (by rfl) (by rfl) (by rfl) ?_
      | refine W_off (by rfl) (by rfl) (by rfl) (by rfl) (by rfl) ?_
      | refine W_offU (by rfl) (by rfl) (by rfl) (by rfl) ?_
      | refine W_cond_t (by rfl) ?_
      | refine W_cond_f (by rfl) ?_
    repeat first
      | refine D_pure TOk (by kernel_rfl) hB (by rfl) (by rfl) (by first | trivial | (simp only [okI, and_true, true_and, and_self] <;> omega)) (fun hB => ?_)
      | refine D_done hB ?_
      | refine D_shown (fun _ h => h) ?_
      | refine D_shown (fun _ h => h.ent (Ent.drop1 _ _)) ?_
      | refine D_load_box 0 TOk (by kernel_rfl) hB (by rfl) (by rfl) (by rfl) (by rfl) (by rfl) (fun _ h => h) (by rfl) (by rfl) (fun hB => ?_)
      | refine D_load_box 1 TOk (by kernel_rfl) hB (by rfl) (by rfl) (by rfl) (by rfl) (by rfl) (fun _ h => h) (by rfl) (by rfl) (fun hB => ?_)
      | refine D_load_boxN 0 TOk (by kernel_rfl) hB (by rfl) (by rfl) (by rfl) (by rfl) (by rfl) (by rfl) (fun _ h => h) (by rfl) (fun hB => ?_)
      | refine D_load_boxN 1 TOk (by kernel_rfl) hB (by rfl) (by rfl) (by rfl) (by rfl) (by rfl) (by rfl) (fun _ h => h) (by rfl) (fun hB => ?_)
    refine D_last hB (by rfl) (fun hB => ?_)
    refine W_append_new TOk (by rfl) (by rfl) (by rfl) sl223 (fun w1 hw => (hw.hp.cells 4 rfl).take (i * 2)) (by rw [spanC_take, spanC_length, hti]) (fun w1 hw => hw.hp.cells 0 rfl) (by rfl) (by omega) (by unfold maxLen; omega) (by omega) (fun A3 c3 => ?_)
    repeat first
      | refine W_seq ?_
      | refine W_skip ?_
      | refine W_block ?_
      | refine W_blk ?_
      | refine W_exit (by rfl) ?_
      | refine W_region (by rfl) ?_
      | refine W_opsnil ?_
      | refine W_pure TOk (by rfl) (by first | trivial | (simp only [okI, and_true, true_and, and_self] <;> omega)) ?_
      | refine W_on (by rfl) (by rfl) (by rfl) ?_
      | refine W_off (by rfl) (by rfl) (by rfl) (by rfl) (by rfl) ?_
      | refine W_offU (by rfl) (by rfl) (by rfl) (by rfl) ?_
      | refine W_cond_t (by rfl) ?_
      | refine W_cond_f (by rfl) ?_
      | refine W_load_box 0 TOk (by rfl) (by rfl) (by rfl) (by rfl) (by rfl) ?_
      | refine W_load_box 1 TOk (by rfl) (by rfl) (by rfl) (by rfl) (by rfl) ?_
      | refine W_load_box 2 TOk (by rfl) (by rfl) (by rfl) (by rfl) (by rfl) ?_
      | refine W_load_box 3 TOk (by rfl) (by rfl) (by rfl) (by rfl) (by rfl) ?_
      | refine W_load_boxN 0 TOk (by rfl) (by rfl) (by rfl) (by rfl) (by rfl) ?_
      | refine W_load_boxN 1 TOk (by rfl) (by rfl) (by rfl) (by rfl) (by rfl) ?_
      | refine W_load_boxN 2 TOk (by rfl) (by rfl) (by rfl) (by rfl) (by rfl) ?_
      | refine W_load_boxN 3 TOk (by rfl) (by rfl) (by rfl) (by rfl) (by rfl) ?_
      | (refine W_store_box 0 TOk (by rfl) (by rfl) (by rfl) (by rfl) (by rfl) (by rfl) ?_; dsimp only [setL, putL, vcells])
      | (refine W_store_box 1 TOk (by rfl) (by rfl) (by rfl) (by rfl) (by rfl) (by rfl) ?_; dsimp only [setL, putL, vcells])
      | (refine W_store_box 2 TOk (by rfl) (by rfl) (by rfl) (by rfl) (by rfl) (by rfl) ?_; dsimp only [setL, putL, vcells])
      | (refine W_store_box 3 TOk (by rfl) (by rfl) (by rfl) (by rfl) (by rfl) (by rfl) ?_; dsimp only [setL, putL, vcells])
    repeat first
      | refine D_pure TOk (by kernel_rfl) hB (by rfl) (by rfl) (by first | trivial | (simp only [okI, and_true, true_and, and_self] <;> omega)) (fun hB => ?_)
      | refine D_done hB ?_
      | refine D_shown (fun _ h => h) ?_
      | refine D_shown (fun _ h => h.ent (Ent.drop1 _ _)) ?_
      | refine D_load_box 0 TOk (by kernel_rfl) hB (by rfl) (by rfl) (by rfl) (by rfl) (by rfl) (fun _ h => h) (by rfl) (by rfl) (fun hB => ?_)
      | refine D_load_box 1 TOk (by kernel_rfl) hB (by rfl) (by rfl) (by rfl) (by rfl) (by rfl) (fun _ h => h) (by rfl) (by rfl) (fun hB => ?_)
      | refine D_load_box 2 TOk (by kernel_rfl) hB (by rfl) (by rfl) (by rfl) (by rfl) (by rfl) (fun _ h => h) (by rfl) (by rfl) (fun hB => ?_)
      | refine D_load_box 3 TOk (by kernel_rfl) hB (by rfl) (by rfl) (by rfl) (by rfl) (by rfl) (fun _ h => h) (by rfl) (by rfl) (fun hB => ?_)
      | refine D_load_boxN 0 TOk (by kernel_rfl) hB (by rfl) (by rfl) (by rfl) (by rfl) (by rfl) (by rfl) (fun _ h => h) (by rfl) (fun hB => ?_)
      | refine D_load_boxN 1 TOk (by kernel_rfl) hB (by rfl) (by rfl) (by rfl) (by rfl) (by rfl) (by rfl) (fun _ h => h) (by rfl) (fun hB => ?_)
      | refine D_load_boxN 2 TOk (by kernel_rfl) hB (by rfl) (by rfl) (by rfl) (by rfl) (by rfl) (by rfl) (fun _ h => h) (by rfl) (fun hB => ?_)
      | refine D_load_boxN 3 TOk (by kernel_rfl) hB (by rfl) (by rfl) (by rfl) (by rfl) (by rfl) (by rfl) (fun _ h => h) (by rfl) (fun hB => ?_)
    repeat first
      | refine W_seq ?_
      | refine W_skip ?_
      | refine W_block ?_
      | refine W_blk ?_
      | refine W_exit (by rfl) ?_
      | refine W_region (by rfl) ?_
      | refine W_opsnil ?_
      | refine W_pure TOk (by rfl) (by first | trivial | (simp only [okI, and_true, true_and, and_self] <;> omega)) ?_
      | refine W_on (by rfl) (by rfl) (by rfl) ?_
      | refine W_off (by rfl) (by rfl) (by rfl) (by rfl) (by rfl) ?_
      | refine W_offU (by rfl) (by rfl) (by rfl) (by rfl) ?_
      | refine W_cond_t (by rfl) ?_
      | refine W_cond_f (by rfl) ?_
      | refine W_load_box 0 TOk (by rfl) (by rfl) (by rfl) (by rfl) (by rfl) ?_
      | refine W_load_box 1 TOk (by rfl) (by rfl) (by rfl) (by rfl) (by rfl) ?_
      | refine W_load_box 2 TOk (by rfl) (by rfl) (by rfl) (by rfl) (by rfl) ?_
      | refine W_load_box 3 TOk (by rfl) (by rfl) (by rfl) (by rfl) (by rfl) ?_
      | refine W_load_boxN 0 TOk (by rfl) (by rfl) (by rfl) (by rfl) (by rfl) ?_
      | refine W_load_boxN 1 TOk (by rfl) (by rfl) (by rfl) (by rfl) (by rfl) ?_
      | refine W_load_boxN 2 TOk (by rfl) (by rfl) (by rfl) (by rfl) (by rfl) ?_
      | refine W_load_boxN 3 TOk (by rfl) (by rfl) (by rfl) (by rfl) (by rfl) ?_
      | (refine W_store_box 0 TOk (by rfl) (by rfl) (by rfl) (by rfl) (by rfl) (by rfl) ?_; dsimp only [setL, putL, vcells])
      | (refine W_store_box 1 TOk (by rfl) (by rfl) (by rfl) (by rfl) (by rfl) (by rfl) ?_; dsimp only [setL, putL, vcells])
      | (refine W_store_box 2 TOk (by rfl) (by rfl) (by rfl) (by rfl) (by rfl) (by rfl) ?_; dsimp only [setL, putL, vcells])
      | (refine W_store_box 3 TOk (by rfl) (by rfl) (by rfl) (by rfl) (by rfl) (by rfl) ?_; dsimp only [setL, putL, vcells])
    simp only [Int.toNat_natCast, Int.toNat_zero, Nat.sub_zero]
    refine W_append_own 0 TOk (by rfl) (by rfl) (by rfl) sl223 (by rfl) (fun w1 hw => span_drop (hw.hp.cells 5 rfl) i rc1 hq2) (by rw [spanC_length, hdl]) (spanC_one _) (by unfold maxLen; omega) (by omega) (fun A4 c4 => ?_); dsimp only [setL]
    repeat first
      | refine W_seq ?_
      | refine W_skip ?_
      | refine W_block ?_
      | refine W_blk ?_
      | refine W_exit (by rfl) ?_
      | refine W_region (by rfl) ?_
      | refine W_opsnil ?_
      | refine W_pure TOk (by rfl) (by first | trivial | (simp only [okI, and_true, true_and, and_self] <;> omega)) ?_
      | refine W_on (by rfl) (by rfl) (by rfl) ?_
      | refine W_off (by rfl) (by rfl) (by rfl) (by rfl) (by rfl) ?_
      | refine W_offU (by rfl) (by rfl) (by rfl) (by rfl) ?_
      | refine W_cond_t (by rfl) ?_
      | refine W_cond_f (by rfl) ?_
      | refine W_load_box 0 TOk (by rfl) (by rfl) (by rfl) (by rfl) (by rfl) ?_
      | refine W_load_box 1 TOk (by rfl) (by rfl) (by rfl) (by rfl) (by rfl) ?_
      | refine W_load_box 2 TOk (by rfl) (by rfl) (by rfl) (by rfl) (by rfl) ?_
      | refine W_load_box 3 TOk (by rfl) (by rfl) (by rfl) (by rfl) (by rfl) ?_
      | refine W_load_boxN 0 TOk (by rfl) (by rfl) (by rfl) (by rfl) (by rfl) ?_
      | refine W_load_boxN 1 TOk (by rfl) (by rfl) (by rfl) (by rfl) (by rfl) ?_
      | refine W_load_boxN 2 TOk (by rfl) (by rfl) (by rfl) (by rfl) (by rfl) ?_
      | refine W_load_boxN 3 TOk (by rfl) (by rfl) (by rfl) (by rfl) (by rfl) ?_
      | (refine W_store_box 0 TOk (by rfl) (by rfl) (by rfl) (by rfl) (by rfl) (by rfl) ?_; dsimp only [setL, putL, vcells])
      | (refine W_store_box 1 TOk (by rfl) (by rfl) (by rfl) (by rfl) (by rfl) (by rfl) ?_; dsimp only [setL, putL, vcells])
      | (refine W_store_box 2 TOk (by rfl) (by rfl) (by rfl) (by rfl) (by rfl) (by rfl) ?_; dsimp only [setL, putL, vcells])
      | (refine W_store_box 3 TOk (by rfl) (by rfl) (by rfl) (by rfl) (by rfl) (by rfl) ?_; dsimp only [setL, putL, vcells])
    refine W_retT (vs := [_]) ⟨rfl, trivial⟩ ?_ ⟨rfl, rfl⟩
    refine Ent.trans ?_ (Ent.tab_in (S ++ l, A2, c2, insR S R a l.length, A4, c4) hi Lf)
    unfold tabL
    dsimp only [List.cons_append, List.nil_append]
    have hl2 : (insR S R a l.length).length = i + 1 + (R1.length - i) := by rw [hiR, List.length_append, List.length_append, hti, hdl]; rfl
    have hc2 : spanC (insR S R a l.length) = List.take (i * 2) (spanC R1) ++ [Value.int IntKind.i64 (S.length : Nat), Value.int IntKind.i64 (l.length : Nat)] ++ spanC (List.drop i R1) := by
      rw [hiR, spanC_app, spanC_app, spanC_take]; rfl
    have hx2 : (((x.take a ++ l ++ x.drop a).length : Nat) : Int) = (x.length : Int) + (l.length : Int) := by simp; omega
    have hi2 : i32s (S ++ l) = i32s S ++ i32s l := by simp [i32s]
    rw [hl2, hc2, hx2, hi2, List.length_append]
    exact (Ent.pk 3 (by rfl)).trans (Ent.cons _ ((Ent.pk 3 (by rfl)).trans (Ent.cons _ ((Ent.snd _ _ _).trans ((Ent.snd _ _ _).trans (Ent.snd _ _ _))))))
end Go.Proofs.Ytdfibmbedjpcgaa
