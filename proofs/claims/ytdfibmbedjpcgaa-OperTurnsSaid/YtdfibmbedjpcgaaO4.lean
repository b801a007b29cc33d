/- Contracts of the document's side: a region there; its ends; what it has; a line parted; Take. -/
import Derived.Test.YtdfibmbedjpcgaaO3
set_option linter.unusedVariables false
set_option linter.unusedSimpArgs false
namespace Go.Proofs.Ytdfibmbedjpcgaa
open Go Go.RowKit Eng Ls
attribute [local irreducible] Eng.W

set_option maxRecDepth 4000 in
set_option maxHeartbeats 1000000 in
theorem Ahead_c (w : World) (l1 c1 l2 c2 : Int) : Val Try.prog 58 [pos l1 c1, pos l2 c2] w (.bool (aheadS (l1, c1) (l2, c2))) := by
  have fin : ∀ {b : Bool}, (b = true ↔ (l1 < l2 ∨ l1 = l2 ∧ c1 < c2)) → Value.bool b = Value.bool (aheadS (l1, c1) (l2, c2)) := fun {b} h => by
    congr 1
    unfold aheadS
    rw [Bool.eq_iff_iff, h]
    simp
  refine enterF Try.func58 rfl Try.ntmps58 rfl rfl ?_
  repeat first | refine W_seq ?_ | refine W_region (by rfl) ?_
  refine W_box (cs := [_, _]) (by rfl) (by rfl) (by rfl) (fun b2 => ?_)
  refine W_box (cs := [_, _]) (by rfl) (by rfl) (by rfl) (fun b3 => ?_)
  repeat first | refine W_seq ?_ | refine W_region (by rfl) ?_ | refine W_opsnil ?_ | refine W_pure TOk (by rfl) (by first | trivial | (simp only [okI, and_true, true_and, and_self] <;> omega) | omega) ?_ | refine W_load_box 0 TOk (by rfl) (by rfl) (by rfl) (by rfl) (by rfl) ?_ | refine W_load_box 1 TOk (by rfl) (by rfl) (by rfl) (by rfl) (by rfl) ?_
  refine W_dec 10 (by rfl) (fun h1 => ?_) (fun h1 => ?_)
  · have h1 := of_decide_eq_true h1
    repeat first | refine W_opsnil ?_ | refine W_pure TOk (by rfl) (by first | trivial | (simp only [okI, and_true, true_and, and_self] <;> omega) | omega) ?_ | refine W_off (by rfl) (by rfl) (by rfl) (by rfl) (by rfl) ?_ | refine W_offU (by rfl) (by rfl) (by rfl) (by rfl) ?_
    exact W_retF (vs := [_]) ⟨rfl, trivial⟩ (Ent.nil _) ⟨fin (by simp; omega), rfl⟩
  · have h1 := of_decide_eq_false h1
    repeat first | refine W_pure TOk (by rfl) (by first | trivial | (simp only [okI, and_true, true_and, and_self] <;> omega) | omega) ?_ | refine W_on (by rfl) (by rfl) (by rfl) ?_ | refine W_load_box 0 TOk (by rfl) (by rfl) (by rfl) (by rfl) (by rfl) ?_ | refine W_load_box 1 TOk (by rfl) (by rfl) (by rfl) (by rfl) (by rfl) ?_
    refine W_dec 16 (by rfl) (fun h2 => ?_) (fun h2 => ?_)
    · have h2 := of_decide_eq_true h2
      repeat first | refine W_opsnil ?_ | refine W_pure TOk (by rfl) (by first | trivial | (simp only [okI, and_true, true_and, and_self] <;> omega) | omega) ?_ | refine W_on (by rfl) (by rfl) (by rfl) ?_ | refine W_load_box 0 TOk (by rfl) (by rfl) (by rfl) (by rfl) (by rfl) ?_ | refine W_load_box 1 TOk (by rfl) (by rfl) (by rfl) (by rfl) (by rfl) ?_
      exact W_retF (vs := [_]) ⟨rfl, trivial⟩ (Ent.nil _) ⟨fin (by simp only [decide_eq_true_eq]; omega), rfl⟩
    · have h2 := of_decide_eq_false h2
      repeat first | refine W_opsnil ?_ | refine W_pure TOk (by rfl) (by first | trivial | (simp only [okI, and_true, true_and, and_self] <;> omega) | omega) ?_ | refine W_on (by rfl) (by rfl) (by rfl) ?_ | refine W_off (by rfl) (by rfl) (by rfl) (by rfl) (by rfl) ?_
      exact W_retF (vs := [_]) ⟨rfl, trivial⟩ (Ent.nil _) ⟨fin (by simp; omega), rfl⟩
set_option maxRecDepth 4000 in
set_option maxHeartbeats 2000000 in
theorem there_c (w : World) (A : Option Addr) (c0 : Nat) (L : List (List Int)) (hl : RowsAt w A L) (hb : L.length + tot L ≤ 1099511627776) (fl fc tl tc kd : Int) :
    Val Try.prog 116 [.slice A L.length c0, rgV fl fc tl tc kd] w (.int .i64 (regE L fl fc tl tc kd)) := by
  refine enterF Try.func116 rfl Try.ntmps116 rfl rfl ?_
  repeat first | refine W_seq ?_ | refine W_region (by rfl) ?_
  refine W_box (cs := [_, _, _, _, _]) (by rfl) (by rfl) (by rfl) (fun b3 => ?_)
  repeat first | refine W_seq ?_ | refine W_region (by rfl) ?_ | refine W_opsnil ?_ | refine W_pure TOk (by rfl) (by first | trivial | (simp only [okI, and_true, true_and, and_self] <;> omega) | omega) ?_ | refine W_load_box 0 TOk (by rfl) (by rfl) (by rfl) (by rfl) (by rfl) ?_
  refine W_dec 8 (by rfl) (fun h1 => ?_) (fun h1 => ?_)
  · have h1 := of_decide_eq_true h1
    repeat first | refine W_seq ?_ | refine W_region (by rfl) ?_ | refine W_opsnil ?_ | refine W_pure TOk (by rfl) (by first | trivial | (simp only [okI, and_true, true_and, and_self] <;> omega) | omega) ?_ | refine W_off (by rfl) (by rfl) (by rfl) (by rfl) (by rfl) ?_ | refine W_cond_t (by rfl) ?_
    exact W_retF (vs := [_]) ⟨rfl, trivial⟩ (Ent.nil _) ⟨by rw [regE_kd (.inl h1)]; rfl, rfl⟩
  · have h1 := of_decide_eq_false h1
    repeat first | refine W_opsnil ?_ | refine W_pure TOk (by rfl) (by first | trivial | (simp only [okI, and_true, true_and, and_self] <;> omega) | omega) ?_ | refine W_on (by rfl) (by rfl) (by rfl) ?_ | refine W_load_box 0 TOk (by rfl) (by rfl) (by rfl) (by rfl) (by rfl) ?_
    refine W_cond_d (by rfl) (fun h2 => ?_) (fun h2 => ?_)
    · repeat first | refine W_seq ?_ | refine W_region (by rfl) ?_ | refine W_opsnil ?_ | refine W_pure TOk (by rfl) (by first | trivial | (simp only [okI, and_true, true_and, and_self] <;> omega) | omega) ?_
      exact W_retF (vs := [_]) ⟨rfl, trivial⟩ (Ent.nil _) ⟨by rw [regE_kd (.inr h2)]; rfl, rfl⟩
    · have hk : ¬ (kd < 0 ∨ 2 < kd) := by omega
      repeat first | refine W_seq ?_ | refine W_skip ?_
      refine W_draw (fun w1 => St _ _ w1 _) [] [(0, 0), (1, 0), (2, 0), (3, 0), (4, 0), (5, 0), (6, 0), (8, 0), (9, 0), (7, 1), (10, 0), (11, 0), (12, 0), (13, 0), (14, 0), (15, 0), (17, 0), (18, 0), (16, 1), (19, 0), (20, 0)] (by kernel_rfl) (fun _ h => h) (by rfl) (by kernel_rfl) (fun hB => ?_)
      repeat first | refine D_pure1 TOk (by kernel_rfl) hB (by rfl) (by rfl) (by rfl) (by rfl) (by first | trivial | (simp only [okI, and_true, true_and, and_self] <;> omega) | omega) (fun hB => ?_)
      refine W_dec 16 (by rfl) (fun h3 => ?_) (fun h3 => ?_)
      · have h3 := of_decide_eq_true h3
        repeat first | refine D_off (by kernel_rfl) hB (by rfl) (by rfl) (by rfl) (fun hB => ?_)
        refine D_one hB (by rfl) (fun hB => ?_)
        repeat first | refine W_opsnil ?_ | refine W_off (by rfl) (by rfl) (by rfl) (by rfl) (by rfl) ?_
        repeat first | refine D_pure1 TOk (by kernel_rfl) hB (by rfl) (by rfl) (by rfl) (by rfl) (by first | trivial | (simp only [okI, and_true, true_and, and_self] <;> omega) | omega) (fun hB => ?_) | refine D_off (by kernel_rfl) hB (by rfl) (by rfl) (by rfl) (fun hB => ?_) | refine D_shown (fun _ h => h) ?_
        refine D_one hB (by rfl) (fun hB => ?_)
        repeat first | refine W_opsnil ?_ | refine W_off (by rfl) (by rfl) (by rfl) (by rfl) (by rfl) ?_
        repeat first | refine D_pure1 TOk (by kernel_rfl) hB (by rfl) (by rfl) (by rfl) (by rfl) (by first | trivial | (simp only [okI, and_true, true_and, and_self] <;> omega) | omega) (fun hB => ?_) | refine D_off (by kernel_rfl) hB (by rfl) (by rfl) (by rfl) (fun hB => ?_) | refine D_done hB ?_ | refine D_shown (fun _ h => h) ?_
        repeat first | refine W_seq ?_ | refine W_region (by rfl) ?_ | refine W_opsnil ?_ | refine W_pure TOk (by rfl) (by first | trivial | (simp only [okI, and_true, true_and, and_self] <;> omega) | omega) ?_ | refine W_cond_t (by rfl) ?_
        exact W_retF (vs := [_]) ⟨rfl, trivial⟩ (Ent.nil _) ⟨by rw [regE_no hk (.inl (by omega))]; rfl, rfl⟩
      · have h3 := of_decide_eq_false h3
        repeat first | refine D_pure1 TOk (by kernel_rfl) hB (by rfl) (by rfl) (by rfl) (by rfl) (by first | trivial | (simp only [okI, and_true, true_and, and_self] <;> omega) | omega) (fun hB => ?_) | refine D_load_boxN 0 TOk (by kernel_rfl) hB (by rfl) (by rfl) (by rfl) (by rfl) (by rfl) (by rfl) (fun _ h => h) (by rfl) (fun hB => ?_)
        refine D_one hB (by rfl) (fun hB => ?_)
        repeat first | refine W_on (by rfl) (by rfl) (by rfl) ?_
        refine W_callV (by rfl) Try.call57 (by rfl) (fun w1 hw => RClip_c w1 A c0 L (hl.below hw.below) (by omega) fl fc) ?_
        repeat first | refine W_opsnil ?_
        repeat first | refine D_pure1 TOk (by kernel_rfl) hB (by rfl) (by rfl) (by rfl) (by rfl) (by first | trivial | (simp only [okI, and_true, true_and, and_self] <;> omega) | omega) (fun hB => ?_) | refine D_shown (fun _ h => h) ?_
        refine W_dec 25 (by rfl) (fun h4 => ?_) (fun h4 => ?_)
        · have h4' : ¬ (((clipS L fl fc).1 : Int) = fl ∧ ((clipS L fl fc).2 : Int) = fc) := fun h => by rw [eq_and.2 h] at h4; cases h4
          repeat first | refine D_off (by kernel_rfl) hB (by rfl) (by rfl) (by rfl) (fun hB => ?_)
          refine D_one hB (by rfl) (fun hB => ?_)
          repeat first | refine W_opsnil ?_ | refine W_off (by rfl) (by rfl) (by rfl) (by rfl) (by rfl) ?_
          repeat first | refine D_pure1 TOk (by kernel_rfl) hB (by rfl) (by rfl) (by rfl) (by rfl) (by first | trivial | (simp only [okI, and_true, true_and, and_self] <;> omega) | omega) (fun hB => ?_) | refine D_off (by kernel_rfl) hB (by rfl) (by rfl) (by rfl) (fun hB => ?_) | refine D_done hB ?_ | refine D_shown (fun _ h => h) ?_
          repeat first | refine W_seq ?_ | refine W_region (by rfl) ?_ | refine W_opsnil ?_ | refine W_pure TOk (by rfl) (by first | trivial | (simp only [okI, and_true, true_and, and_self] <;> omega) | omega) ?_ | refine W_cond_t (by rfl) ?_
          exact W_retF (vs := [_]) ⟨rfl, trivial⟩ (Ent.nil _) ⟨by rw [regE_no hk (.inr (.inl h4'))]; rfl, rfl⟩
        · have h4' : ((clipS L fl fc).1 : Int) = fl ∧ ((clipS L fl fc).2 : Int) = fc := eq_and.1 (by simpa using h4)
          repeat first | refine D_pure1 TOk (by kernel_rfl) hB (by rfl) (by rfl) (by rfl) (by rfl) (by first | trivial | (simp only [okI, and_true, true_and, and_self] <;> omega) | omega) (fun hB => ?_) | refine D_load_boxN 0 TOk (by kernel_rfl) hB (by rfl) (by rfl) (by rfl) (by rfl) (by rfl) (by rfl) (fun _ h => h) (by rfl) (fun hB => ?_)
          refine D_one hB (by rfl) (fun hB => ?_)
          repeat first | refine W_on (by rfl) (by rfl) (by rfl) ?_
          refine W_callV (by rfl) Try.call57 (by rfl) (fun w1 hw => RClip_c w1 A c0 L (hl.below hw.below) (by omega) tl tc) ?_
          repeat first | refine W_opsnil ?_
          repeat first | refine D_pure1 TOk (by kernel_rfl) hB (by rfl) (by rfl) (by rfl) (by rfl) (by first | trivial | (simp only [okI, and_true, true_and, and_self] <;> omega) | omega) (fun hB => ?_) | refine D_done hB ?_ | refine D_shown (fun _ h => h) ?_
          refine W_cond (by rfl) (fun h5 => ?_) (fun h5 => ?_)
          · have h5' : ¬ (((clipS L tl tc).1 : Int) = tl ∧ ((clipS L tl tc).2 : Int) = tc) := fun h => by rw [eq_and.2 h] at h5; cases h5
            repeat first | refine W_seq ?_ | refine W_region (by rfl) ?_ | refine W_opsnil ?_ | refine W_pure TOk (by rfl) (by first | trivial | (simp only [okI, and_true, true_and, and_self] <;> omega) | omega) ?_
            exact W_retF (vs := [_]) ⟨rfl, trivial⟩ (Ent.nil _) ⟨by rw [regE_no hk (.inr (.inr h5'))]; rfl, rfl⟩
          · have h5' : ((clipS L tl tc).1 : Int) = tl ∧ ((clipS L tl tc).2 : Int) = tc := eq_and.1 (by simpa using h5)
            repeat first | refine W_seq ?_ | refine W_skip ?_ | refine W_region (by rfl) ?_ | refine W_opsnil ?_ | refine W_pure TOk (by rfl) (by first | trivial | (simp only [okI, and_true, true_and, and_self] <;> omega) | omega) ?_
            exact W_retF (vs := [_]) ⟨rfl, trivial⟩ (Ent.nil _) ⟨by rw [regE_ok hk (by omega) h4' h5']; rfl, rfl⟩
theorem ahead_swp {fl fc tl tc : Int} : aheadS (tl, tc) (fl, fc) = true ↔ swp fl fc tl tc := by unfold aheadS swp; simp
def posN (a : Nat × Nat) : Value := .agg #[.int .i64 (a.1 : Nat), .int .i64 (a.2 : Nat)]
set_option maxHeartbeats 1000000 in
theorem ends_c (w : World) (L : List (List Int)) (fl fc tl tc kd : Int) (he : regE L fl fc tl tc kd = 0) :
    Val Try.prog 117 [rgV fl fc tl tc kd] w (.tuple #[posN (regA fl fc tl tc), posN (regB fl fc tl tc)]) := by
  obtain ⟨hok, heq⟩ := regOk he
  refine enterF Try.func117 rfl Try.ntmps117 rfl rfl ?_
  repeat first | refine W_seq ?_ | refine W_region (by rfl) ?_
  refine W_box (cs := [_, _, _, _, _]) (by rfl) (by rfl) (by rfl) (fun b1 => ?_)
  refine W_alloc (cs := [_, _]) TOk (by rfl) (by rfl) (fun b2 => ?_)
  refine W_alloc (cs := [_, _]) TOk (by rfl) (by rfl) (fun b3 => ?_)
  repeat first | refine W_seq ?_ | refine W_region (by rfl) ?_ | refine W_opsnil ?_ | refine W_pure TOk (by rfl) (by first | trivial | (simp only [okI, and_true, true_and, and_self] <;> omega) | omega) ?_ | refine W_load_boxN 2 TOk (by rfl) (by rfl) (by rfl) (by rfl) (by rfl) ?_
  refine W_callV (by rfl) Try.call58 (by rfl) (fun w1 hw => Ahead_c w1 tl tc fl fc) ?_
  repeat first | refine W_opsnil ?_
  have fin : ∀ (F : Fr) (k : List It) (M : List Ast) (a1 a2 a3 a4 : Int), fget F 2 = some (.pointer (some ⟨b2, 0, none⟩)) → fget F 3 = some (.pointer (some ⟨b3, 0, none⟩)) → M[1]? = some (box b2 43 [.int .i64 a1, .int .i64 a2]) → M[0]? = some (box b3 43 [.int .i64 a3, .int .i64 a4]) →
      a1 = (regA fl fc tl tc).1 → a2 = (regA fl fc tl tc).2 → a3 = (regB fl fc tl tc).1 → a4 = (regB fl fc tl tc).2 →
      W (cx Try.prog Try.f117 17 w.heap.size w (FR w fun u M => u = .tuple #[posN (regA fl fc tl tc), posN (regB fl fc tl tc)] ∧ M = [])) (.code .ret :: k) F M := fun F k M a1 a2 a3 a4 h4 h5 hM hM2 e1 e2 e3 e4 => by
    subst e1; subst e2; subst e3; subst e4
    exact W_retF (vs := [_, _]) ⟨rv_box 1 TOk h4 hM rfl, rv_box 0 TOk h5 hM2 rfl, trivial⟩ (Ent.nil _) ⟨rfl, rfl⟩
  refine W_cond (by rfl) (fun h => ?_) (fun h => ?_)
  · rw [if_pos (ahead_swp.1 h)] at heq
    repeat first | refine W_seq ?_
    refine W_draw (fun w1 => St _ _ w1 [box b1 51 [.int .i64 fl, .int .i64 fc, .int .i64 tl, .int .i64 tc, .int .i64 kd]]) [] [(0, 0), (1, 0), (2, 0), (3, 0), (4, 1), (5, 1)] (by kernel_rfl) (fun _ h => h.ent (Ent.sel [2] _ (by rfl))) (by rfl) (by kernel_rfl) (fun hB => ?_)
    repeat first | refine D_pure TOk (by kernel_rfl) hB (by rfl) (by rfl) (by first | trivial | (simp only [okI, and_true, true_and, and_self] <;> omega) | omega) (fun hB => ?_)
    refine D_load_boxN 0 TOk (by kernel_rfl) hB (by rfl) (by rfl) (by rfl) (by rfl) (by rfl) (by rfl) (fun _ h => h.ent (Ent.sel [2] _ (by rfl))) (by rfl) (fun hB => ?_)
    repeat first | refine D_pure TOk (by kernel_rfl) hB (by rfl) (by rfl) (by first | trivial | (simp only [okI, and_true, true_and, and_self] <;> omega) | omega) (fun hB => ?_)
    refine D_load_boxN 0 TOk (by kernel_rfl) hB (by rfl) (by rfl) (by rfl) (by rfl) (by rfl) (by rfl) (fun _ h => h.ent (Ent.sel [2] _ (by rfl))) (by rfl) (fun hB => ?_)
    refine D_one hB (by rfl) (fun hB => ?_)
    repeat first | refine W_opsnil ?_ | (refine W_store_box 1 TOk (by rfl) (by rfl) (by rfl) (by rfl) (by rfl) (by rfl) ?_; dsimp only [setL, putL, vcells])
    refine D_shown (fun _ h => h.ent (Ent.sel [2] _ (by rfl))) ?_
    refine D_one hB (by rfl) (fun hB => ?_)
    repeat first | refine W_opsnil ?_ | (refine W_store_box 0 TOk (by rfl) (by rfl) (by rfl) (by rfl) (by rfl) (by rfl) ?_; dsimp only [setL, putL, vcells])
    refine D_shown (fun _ h => h.ent (Ent.sel [2] _ (by rfl))) ?_
    refine D_done hB ?_
    exact fin _ _ _ _ _ _ _ rfl rfl rfl rfl heq.2.2.1 heq.2.2.2 heq.1 heq.2.1
  · rw [if_neg (fun hs => by rw [ahead_swp.2 hs] at h; cases h)] at heq
    repeat first | refine W_seq ?_ | refine W_skip ?_
    refine W_draw (fun w1 => St _ _ w1 [box b1 51 [.int .i64 fl, .int .i64 fc, .int .i64 tl, .int .i64 tc, .int .i64 kd]]) [] [(0, 0), (1, 0), (2, 0), (3, 0), (4, 1), (5, 1)] (by kernel_rfl) (fun _ h => h.ent (Ent.sel [2] _ (by rfl))) (by rfl) (by kernel_rfl) (fun hB => ?_)
    repeat first | refine D_pure TOk (by kernel_rfl) hB (by rfl) (by rfl) (by first | trivial | (simp only [okI, and_true, true_and, and_self] <;> omega) | omega) (fun hB => ?_)
    refine D_load_boxN 0 TOk (by kernel_rfl) hB (by rfl) (by rfl) (by rfl) (by rfl) (by rfl) (by rfl) (fun _ h => h.ent (Ent.sel [2] _ (by rfl))) (by rfl) (fun hB => ?_)
    repeat first | refine D_pure TOk (by kernel_rfl) hB (by rfl) (by rfl) (by first | trivial | (simp only [okI, and_true, true_and, and_self] <;> omega) | omega) (fun hB => ?_)
    refine D_load_boxN 0 TOk (by kernel_rfl) hB (by rfl) (by rfl) (by rfl) (by rfl) (by rfl) (by rfl) (fun _ h => h.ent (Ent.sel [2] _ (by rfl))) (by rfl) (fun hB => ?_)
    refine D_one hB (by rfl) (fun hB => ?_)
    repeat first | refine W_opsnil ?_ | (refine W_store_box 1 TOk (by rfl) (by rfl) (by rfl) (by rfl) (by rfl) (by rfl) ?_; dsimp only [setL, putL, vcells])
    refine D_shown (fun _ h => h.ent (Ent.sel [2] _ (by rfl))) ?_
    refine D_one hB (by rfl) (fun hB => ?_)
    repeat first | refine W_opsnil ?_ | (refine W_store_box 0 TOk (by rfl) (by rfl) (by rfl) (by rfl) (by rfl) (by rfl) ?_; dsimp only [setL, putL, vcells])
    refine D_shown (fun _ h => h.ent (Ent.sel [2] _ (by rfl))) ?_
    refine D_done hB ?_
    exact fin _ _ _ _ _ _ _ rfl rfl rfl rfl heq.1 heq.2.1 heq.2.2.1 heq.2.2.2
set_option maxRecDepth 4000 in
set_option maxHeartbeats 2000000 in
theorem has_c (w : World) (L : List (List Int)) (fl fc tl tc kd : Int) (he : regE L fl fc tl tc kd = 0) (i k : Nat) :
    Val Try.prog 151 [rgV fl fc tl tc kd, pos (i : Nat) (k : Nat)] w (.bool (hasS kd (regA fl fc tl tc) (regB fl fc tl tc) i k)) := by
  obtain ⟨hok, heq⟩ := regOk he
  have hkd := hok.kd
  refine enterF Try.func151 rfl Try.ntmps151 rfl rfl ?_
  repeat first | refine W_seq ?_ | refine W_region (by rfl) ?_
  refine W_box (cs := [_, _, _, _, _]) (by rfl) (by rfl) (by rfl) (fun b2 => ?_)
  refine W_box (cs := [_, _]) (by rfl) (by rfl) (by rfl) (fun b3 => ?_)
  repeat first | refine W_seq ?_ | refine W_region (by rfl) ?_ | refine W_opsnil ?_ | refine W_pure TOk (by rfl) (by first | trivial | (simp only [okI, and_true, true_and, and_self] <;> omega) | omega) ?_ | refine W_load_boxN 1 TOk (by rfl) (by rfl) (by rfl) (by rfl) (by rfl) ?_
  refine W_callV (by rfl) Try.call117 (by rfl) (fun w1 hw => ends_c w1 L fl fc tl tc kd he) ?_
  generalize regA fl fc tl tc = a at *
  generalize regB fl fc tl tc = b at *
  repeat first | refine W_pure TOk (by rfl) (by first | trivial | (simp only [okI, and_true, true_and, and_self] <;> omega) | omega) ?_
  refine W_alloc (cs := [_, _]) TOk (by rfl) (by rfl) (fun b5 => ?_)
  refine W_alloc (cs := [_, _]) TOk (by rfl) (by rfl) (fun b6 => ?_)
  repeat first | refine W_seq ?_ | refine W_block ?_ | refine W_region (by rfl) ?_ | refine W_opsnil ?_ | refine W_pure TOk (by rfl) (by first | trivial | (simp only [okI, and_true, true_and, and_self] <;> omega) | omega) ?_ | refine W_load_box 3 TOk (by rfl) (by rfl) (by rfl) (by rfl) (by rfl) ?_ | (refine W_store_box 0 TOk (by rfl) (by rfl) (by rfl) (by rfl) (by rfl) (by rfl) ?_; dsimp only [setL, putL, vcells]) | (refine W_store_box 1 TOk (by rfl) (by rfl) (by rfl) (by rfl) (by rfl) (by rfl) ?_; dsimp only [setL, putL, vcells])
  rcases (show kd = 0 ∨ kd = 1 ∨ kd = 2 by omega) with rfl | rfl | rfl
  · repeat first | refine W_seq ?_ | refine W_region (by rfl) ?_ | refine W_cond_t (by rfl) ?_ | refine W_load_boxN 1 TOk (by rfl) (by rfl) (by rfl) (by rfl) (by rfl) ?_ | refine W_load_boxN 2 TOk (by rfl) (by rfl) (by rfl) (by rfl) (by rfl) ?_
    refine W_callV (by rfl) Try.call58 (by rfl) (fun w1 hw => Ahead_c w1 i k a.1 a.2) ?_
    repeat first | refine W_pure TOk (by rfl) (by first | trivial | (simp only [okI, and_true, true_and, and_self] <;> omega) | omega) ?_
    refine W_dec 20 (by rfl) (fun h1 => ?_) (fun h1 => ?_)
    · repeat first | refine W_on (by rfl) (by rfl) (by rfl) ?_ | refine W_load_boxN 0 TOk (by rfl) (by rfl) (by rfl) (by rfl) (by rfl) ?_ | refine W_load_boxN 2 TOk (by rfl) (by rfl) (by rfl) (by rfl) (by rfl) ?_
      refine W_callV (by rfl) Try.call58 (by rfl) (fun w1 hw => Ahead_c w1 b.1 b.2 i k) ?_
      repeat first | refine W_opsnil ?_ | refine W_pure TOk (by rfl) (by first | trivial | (simp only [okI, and_true, true_and, and_self] <;> omega) | omega) ?_ | refine W_on (by rfl) (by rfl) (by rfl) ?_
      refine W_retF (vs := [_]) ⟨rfl, trivial⟩ (Ent.nil _) ⟨?_, rfl⟩
      unfold hasS
      rw [if_pos rfl, h1, Bool.true_and]
      rfl
    · repeat first | refine W_opsnil ?_ | refine W_pure TOk (by rfl) (by first | trivial | (simp only [okI, and_true, true_and, and_self] <;> omega) | omega) ?_ | refine W_off (by rfl) (by rfl) (by rfl) (by rfl) (by rfl) ?_
      refine W_retF (vs := [_]) ⟨rfl, trivial⟩ (Ent.nil _) ⟨?_, rfl⟩
      unfold hasS
      rw [if_pos rfl, h1, Bool.false_and]
      rfl
  · have fin : ∀ {x : Bool}, (x = true ↔ (a.1 ≤ i ∧ i ≤ b.1)) → Value.bool x = Value.bool (hasS 1 a b i k) := fun {x} h => by
      congr 1
      unfold hasS
      rw [Bool.eq_iff_iff, h, if_neg (by decide), if_pos rfl]
      simp
    repeat first | refine W_seq ?_ | refine W_region (by rfl) ?_ | refine W_opsnil ?_ | refine W_pure TOk (by rfl) (by first | trivial | (simp only [okI, and_true, true_and, and_self] <;> omega) | omega) ?_ | refine W_cond_t (by rfl) ?_ | refine W_cond_f (by rfl) ?_ | refine W_load_box 1 TOk (by rfl) (by rfl) (by rfl) (by rfl) (by rfl) ?_ | refine W_load_box 2 TOk (by rfl) (by rfl) (by rfl) (by rfl) (by rfl) ?_
    refine W_dec 33 (by rfl) (fun h1 => ?_) (fun h1 => ?_)
    · have h1 := of_decide_eq_true h1
      repeat first | refine W_opsnil ?_ | refine W_pure TOk (by rfl) (by first | trivial | (simp only [okI, and_true, true_and, and_self] <;> omega) | omega) ?_ | refine W_on (by rfl) (by rfl) (by rfl) ?_ | refine W_load_box 0 TOk (by rfl) (by rfl) (by rfl) (by rfl) (by rfl) ?_ | refine W_load_box 2 TOk (by rfl) (by rfl) (by rfl) (by rfl) (by rfl) ?_
      exact W_retF (vs := [_]) ⟨rfl, trivial⟩ (Ent.nil _) ⟨fin (by simp only [decide_eq_true_eq]; omega), rfl⟩
    · have h1 := of_decide_eq_false h1
      repeat first | refine W_opsnil ?_ | refine W_pure TOk (by rfl) (by first | trivial | (simp only [okI, and_true, true_and, and_self] <;> omega) | omega) ?_ | refine W_off (by rfl) (by rfl) (by rfl) (by rfl) (by rfl) ?_
      exact W_retF (vs := [_]) ⟨rfl, trivial⟩ (Ent.nil _) ⟨fin (by simp; omega), rfl⟩
  · have fin : ∀ {x : Bool}, (x = true ↔ (a.1 ≤ i ∧ i ≤ b.1 ∧ min a.2 b.2 ≤ k ∧ k ≤ max a.2 b.2)) → Value.bool x = Value.bool (hasS 2 a b i k) := fun {x} h => by
      congr 1
      unfold hasS
      rw [Bool.eq_iff_iff, h, if_neg (by decide), if_neg (by decide)]
      simp [and_assoc]
    repeat first | refine W_seq ?_ | refine W_skip ?_ | refine W_blk ?_ | refine W_region (by rfl) ?_ | refine W_opsnil ?_ | refine W_pure TOk (by rfl) (by first | trivial | (simp only [okI, and_true, true_and, and_self] <;> omega) | omega) ?_ | refine W_cond_f (by rfl) ?_ | refine W_load_box 1 TOk (by rfl) (by rfl) (by rfl) (by rfl) (by rfl) ?_ | refine W_load_box 2 TOk (by rfl) (by rfl) (by rfl) (by rfl) (by rfl) ?_
    refine W_dec 45 (by rfl) (fun h1 => ?_) (fun h1 => ?_)
    · have h1 := of_decide_eq_true h1
      repeat first | refine W_pure TOk (by rfl) (by first | trivial | (simp only [okI, and_true, true_and, and_self] <;> omega) | omega) ?_ | refine W_on (by rfl) (by rfl) (by rfl) ?_ | refine W_load_box 0 TOk (by rfl) (by rfl) (by rfl) (by rfl) (by rfl) ?_ | refine W_load_box 2 TOk (by rfl) (by rfl) (by rfl) (by rfl) (by rfl) ?_
      refine W_dec 52 (by rfl) (fun h2 => ?_) (fun h2 => ?_)
      · have h2 := of_decide_eq_true h2
        repeat first | refine W_pure TOk (by rfl) (by first | trivial | (simp only [okI, and_true, true_and, and_self] <;> omega) | omega) ?_ | refine W_on (by rfl) (by rfl) (by rfl) ?_ | refine W_load_box 0 TOk (by rfl) (by rfl) (by rfl) (by rfl) (by rfl) ?_ | refine W_load_box 1 TOk (by rfl) (by rfl) (by rfl) (by rfl) (by rfl) ?_ | refine W_load_box 2 TOk (by rfl) (by rfl) (by rfl) (by rfl) (by rfl) ?_
        rw [min_nat]
        refine W_dec 62 (by rfl) (fun h3 => ?_) (fun h3 => ?_)
        · have h3 := of_decide_eq_true h3
          repeat first | refine W_opsnil ?_ | refine W_pure TOk (by rfl) (by first | trivial | (simp only [okI, and_true, true_and, and_self] <;> omega) | omega) ?_ | refine W_on (by rfl) (by rfl) (by rfl) ?_ | refine W_load_box 0 TOk (by rfl) (by rfl) (by rfl) (by rfl) (by rfl) ?_ | refine W_load_box 1 TOk (by rfl) (by rfl) (by rfl) (by rfl) (by rfl) ?_ | refine W_load_box 2 TOk (by rfl) (by rfl) (by rfl) (by rfl) (by rfl) ?_
          rw [max_nat]
          exact W_retF (vs := [_]) ⟨rfl, trivial⟩ (Ent.nil _) ⟨fin (by simp only [decide_eq_true_eq]; omega), rfl⟩
        · have h3 := of_decide_eq_false h3
          repeat first | refine W_opsnil ?_ | refine W_pure TOk (by rfl) (by first | trivial | (simp only [okI, and_true, true_and, and_self] <;> omega) | omega) ?_ | refine W_off (by rfl) (by rfl) (by rfl) (by rfl) (by rfl) ?_
          exact W_retF (vs := [_]) ⟨rfl, trivial⟩ (Ent.nil _) ⟨fin (by simp; omega), rfl⟩
      · have h2 := of_decide_eq_false h2
        repeat first | refine W_opsnil ?_ | refine W_pure TOk (by rfl) (by first | trivial | (simp only [okI, and_true, true_and, and_self] <;> omega) | omega) ?_ | refine W_off (by rfl) (by rfl) (by rfl) (by rfl) (by rfl) ?_
        exact W_retF (vs := [_]) ⟨rfl, trivial⟩ (Ent.nil _) ⟨fin (by simp; omega), rfl⟩
    · have h1 := of_decide_eq_false h1
      repeat first | refine W_opsnil ?_ | refine W_pure TOk (by rfl) (by first | trivial | (simp only [okI, and_true, true_and, and_self] <;> omega) | omega) ?_ | refine W_off (by rfl) (by rfl) (by rfl) (by rfl) (by rfl) ?_
      exact W_retF (vs := [_]) ⟨rfl, trivial⟩ (Ent.nil _) ⟨fin (by simp; omega), rfl⟩
/-- Two rows of one's own. -/
def TwoR (x y : List Int) (v : Value) (M : List Ast) : Prop := ∃ A c A' c', v = .tuple #[.slice A x.length c, .slice A' y.length c'] ∧ M = [own 21 1 A x.length c (i32s x), own 21 1 A' y.length c' (i32s y)]
set_option maxRecDepth 4000 in
set_option maxHeartbeats 2000000 in
theorem parted_c (w : World) (A : Option Addr) (c0 : Nat) (L : List (List Int)) (hl : RowsAt w A L) (hb : L.length + tot L ≤ 1099511627776) (fl fc tl tc kd : Int) (he : regE L fl fc tl tc kd = 0) (i : Nat) (h1 : (regA fl fc tl tc).1 ≤ i) (h2 : i ≤ (regB fl fc tl tc).1) :
    Fresh Try.prog 118 [.slice A L.length c0, .int .i64 (i : Nat), rgV fl fc tl tc kd] w
      (TwoR (cutIn (rowN L i) (colF kd (regA fl fc tl tc) (regB fl fc tl tc) (rowN L i).length i) (colT kd (regA fl fc tl tc) (regB fl fc tl tc) (rowN L i).length i)) (cutOut (rowN L i) (colF kd (regA fl fc tl tc) (regB fl fc tl tc) (rowN L i).length i) (colT kd (regA fl fc tl tc) (regB fl fc tl tc) (rowN L i).length i))) := by
  obtain ⟨hok, heq⟩ := regOk he
  have hlt := hok.lt
  obtain ⟨B, cB, hcB, hB_, hvs⟩ := hl.row (i := (i : Int)) (by omega) (by omega)
  rw [rowN_rw] at hvs hB_ hcB
  have hrl := rowN_len (xss := L) (i := i) (by omega)
  have hcl := col_le kd (regA fl fc tl tc) (regB fl fc tl tc) (rowN L i).length i
  have hcol := fun (k : Nat) (hk : k < (rowN L i).length) => hasS_col hok h1 h2 hk
  have hhas := fun (w : World) (k : Nat) => has_c w L fl fc tl tc kd he i k
  generalize hx : rowN L i = x at *
  generalize hf : colF kd (regA fl fc tl tc) (regB fl fc tl tc) x.length i = f at *
  generalize ht : colT kd (regA fl fc tl tc) (regB fl fc tl tc) x.length i = t at *
  generalize hasS kd (regA fl fc tl tc) (regB fl fc tl tc) i = hs at *
  refine enterF Try.func118 rfl Try.ntmps118 rfl rfl ?_
  repeat first | refine W_seq ?_ | refine W_region (by rfl) ?_
  refine W_box (cs := [_, _, _, _, _]) (by rfl) (by rfl) (by rfl) (fun b5 => ?_)
  repeat first | refine W_seq ?_ | refine W_block ?_ | refine W_region (by rfl) ?_ | refine W_opsnil ?_ | refine W_pure TOk (by rfl) (by first | trivial | (simp only [okI, and_true, true_and, and_self] <;> omega) | omega) ?_
  refine W_loop (ι := Nat × Option Addr × Nat × Option Addr × Nat) (fun ⟨k, A1, c1, A2, c2⟩ => [(0, .slice A L.length c0), (1, .int .i64 (i : Nat)), (5, .pointer (some ⟨b5, 0, none⟩)), (8, .slice A1 (pIn x f t k).length c1), (9, .slice A2 (pOut x f t k).length c2), (10, .int .i64 (k : Nat))])
    (fun ⟨k, A1, c1, A2, c2⟩ => [own 21 1 A1 (pIn x f t k).length c1 (i32s (pIn x f t k)), own 21 1 A2 (pOut x f t k).length c2 (i32s (pOut x f t k)), box b5 51 [.int .i64 fl, .int .i64 fc, .int .i64 tl, .int .i64 tc, .int .i64 kd]])
    (fun q => q.1 ≤ x.length) (fun q => x.length - q.1) (0, none, 0, none, 0) (by dsimp only; omega) ⟨rfl, rfl, rfl, by rw [pIn_zero]; rfl, by rw [pOut_zero]; rfl, rfl, trivial⟩ ?_ ?_
  · dsimp only
    rw [pIn_zero, pOut_zero]
    exact (Ent.own_zero 21 1 none _).trans (Ent.own_zero 21 1 none _)
  rintro ⟨k, A1, c1, A2, c2⟩ hk
  dsimp only at hk ⊢
  have hil := pIn_len x f t k
  have hol := pOut_len x f t k hcl.1
  repeat first | refine W_seq ?_ | refine W_region (by rfl) ?_ | refine W_pure TOk (by rfl) (by first | trivial | (simp only [okI, and_true, true_and, and_self] <;> omega) | omega) ?_
  refine W_index TOk (by rfl) (by rfl) (by rfl) (by first | exact es48 | exact es22 | exact es136 | exact es150 | exact es223 | exact es29 | exact es132 | exact es207) (by omega) (by omega) (fun w1 hw => (hl.below hw.below).isSome (by omega)) ?_
  refine W_load TOk (by rfl) (by rfl) (by rfl) (fun w1 hw => cells_elem1 hvs hw.below) ?_
  repeat first | refine W_opsnil ?_ | refine W_pure TOk (by rfl) (by first | trivial | (simp only [okI, and_true, true_and, and_self] <;> omega) | omega) ?_
  refine W_cond_d (by rfl) (fun hlt2 => ?_) (fun hge => ?_)
  · have hrd := rd_get (xs := x) (i := (k : Int)) (by omega) hlt2
    rw [show ((k : Int)).toNat = k by omega] at hrd
    repeat first | refine W_seq ?_ | refine W_skip ?_ | refine W_block ?_ | refine W_region (by rfl) ?_ | refine W_pure TOk (by rfl) (by first | trivial | (simp only [okI, and_true, true_and, and_self] <;> omega) | omega) ?_ | refine W_load_boxN 2 TOk (by rfl) (by rfl) (by rfl) (by rfl) (by rfl) ?_
    refine W_callV (by rfl) Try.call151 (by rfl) (fun w1 hw => hhas w1 k) ?_
    repeat first | refine W_opsnil ?_
    refine W_cond (by rfl) (fun hh => ?_) (fun hh => ?_)
    · obtain ⟨q1, q2⟩ := (hcol k (by omega)).1 hh
      obtain ⟨e1, e2⟩ := pIn_has hrd q1 q2
      repeat first | refine W_region (by rfl) ?_ | refine W_pure TOk (by rfl) (by first | trivial | (simp only [okI, and_true, true_and, and_self] <;> omega) | omega) ?_
      refine W_index TOk (by rfl) (by rfl) (by rfl) (by first | exact es48 | exact es22 | exact es136 | exact es150 | exact es223 | exact es29 | exact es132 | exact es207) (by omega) (by omega) (fun w1 hw => (hl.below hw.below).isSome (by omega)) ?_
      refine W_load TOk (by rfl) (by rfl) (by rfl) (fun w1 hw => cells_elem1 hvs hw.below) ?_
      repeat first | refine W_pure TOk (by rfl) (by first | trivial | (simp only [okI, and_true, true_and, and_self] <;> omega) | omega) ?_
      refine W_index TOk (by rfl) (by rfl) (by rfl) (by first | exact es48 | exact es22 | exact es136 | exact es150 | exact es223 | exact es29 | exact es132 | exact es207) (by omega) (by omega) (fun w1 hw => (hB_.below hw.below).isSome (by rw [i32s_length]; omega)) ?_
      refine W_load TOk (by rfl) (by rfl) (by rfl) (fun w1 hw => (hB_.below hw.below).elem1 (i32s_get (by omega) hlt2)) ?_
      refine W_lit TOk (cs := [_]) (by rfl) (by first | exact sl48 | exact sl22 | exact sl136 | exact sl150 | exact sl223 | exact sl29 | exact sl132 | exact sl207) (by rfl) (by rfl) (by rfl) (by rfl) (fun g1 => ?_)
      refine W_append_own 1 TOk (by rfl) (by rfl) (by rfl) (by first | exact sl48 | exact sl22 | exact sl136 | exact sl150 | exact sl223 | exact sl29 | exact sl132 | exact sl207) (by rfl) (fun w1 hw => hw.hp.cells 0 rfl) (by simp [i32s_length, i64s_length]) (by first | exact i32s_one _ | exact i64s_one _ | exact one_of _ rfl) (by unfold maxLen; omega) (by omega) (fun A3 c3 => ?_); dsimp only [setL]
      repeat first | refine W_blk ?_ | refine W_region (by rfl) ?_ | refine W_opsnil ?_ | refine W_pure TOk (by rfl) (by first | trivial | (simp only [okI, and_true, true_and, and_self] <;> omega) | omega) ?_
      refine W_inv (k + 1, A3, c3, A2, c2) (by dsimp only; omega) (by dsimp only; omega) ⟨rfl, rfl, rfl, ?_, ?_, rfl, trivial⟩ ?_
      · dsimp only; rw [e1, List.length_append]; rfl
      · dsimp only; rw [e2]; rfl
      · dsimp only
        rw [e1, e2]
        exact (Ent.drop1 _ _).trans (Ent.own_cast (by rw [List.length_append]; rfl) (by simp [i32s]) _)
    · have hno : ¬ (f ≤ k ∧ k < t) := fun h => by rw [(hcol k (by omega)).2 h] at hh; cases hh
      obtain ⟨e1, e2⟩ := pIn_not hcl.1 hrd hno
      repeat first | refine W_region (by rfl) ?_ | refine W_pure TOk (by rfl) (by first | trivial | (simp only [okI, and_true, true_and, and_self] <;> omega) | omega) ?_
      refine W_index TOk (by rfl) (by rfl) (by rfl) (by first | exact es48 | exact es22 | exact es136 | exact es150 | exact es223 | exact es29 | exact es132 | exact es207) (by omega) (by omega) (fun w1 hw => (hl.below hw.below).isSome (by omega)) ?_
      refine W_load TOk (by rfl) (by rfl) (by rfl) (fun w1 hw => cells_elem1 hvs hw.below) ?_
      repeat first | refine W_pure TOk (by rfl) (by first | trivial | (simp only [okI, and_true, true_and, and_self] <;> omega) | omega) ?_
      refine W_index TOk (by rfl) (by rfl) (by rfl) (by first | exact es48 | exact es22 | exact es136 | exact es150 | exact es223 | exact es29 | exact es132 | exact es207) (by omega) (by omega) (fun w1 hw => (hB_.below hw.below).isSome (by rw [i32s_length]; omega)) ?_
      refine W_load TOk (by rfl) (by rfl) (by rfl) (fun w1 hw => (hB_.below hw.below).elem1 (i32s_get (by omega) hlt2)) ?_
      refine W_lit TOk (cs := [_]) (by rfl) (by first | exact sl48 | exact sl22 | exact sl136 | exact sl150 | exact sl223 | exact sl29 | exact sl132 | exact sl207) (by rfl) (by rfl) (by rfl) (by rfl) (fun g1 => ?_)
      refine W_append_own 2 TOk (by rfl) (by rfl) (by rfl) (by first | exact sl48 | exact sl22 | exact sl136 | exact sl150 | exact sl223 | exact sl29 | exact sl132 | exact sl207) (by rfl) (fun w1 hw => hw.hp.cells 0 rfl) (by simp [i32s_length, i64s_length]) (by first | exact i32s_one _ | exact i64s_one _ | exact one_of _ rfl) (by unfold maxLen; omega) (by omega) (fun A3 c3 => ?_); dsimp only [setL]
      repeat first | refine W_blk ?_ | refine W_region (by rfl) ?_ | refine W_opsnil ?_ | refine W_pure TOk (by rfl) (by first | trivial | (simp only [okI, and_true, true_and, and_self] <;> omega) | omega) ?_
      refine W_inv (k + 1, A1, c1, A3, c3) (by dsimp only; omega) (by dsimp only; omega) ⟨rfl, rfl, rfl, ?_, ?_, rfl, trivial⟩ ?_
      · dsimp only; rw [e1]; rfl
      · dsimp only; rw [e2, List.length_append]; rfl
      · dsimp only
        rw [e1, e2]
        refine (Ent.drop1 _ _).trans (Ent.cons _ ?_)
        exact Ent.own_cast (by rw [List.length_append]; rfl) (by simp [i32s]) _
  · have e : k = x.length := by omega
    subst e
    rw [pIn_all hcl.2, pOut_all hcl.1 hcl.2]
    repeat first | refine W_seq ?_ | refine W_exit (by rfl) ?_ | refine W_region (by rfl) ?_ | refine W_opsnil ?_ | refine W_pure TOk (by rfl) (by first | trivial | (simp only [okI, and_true, true_and, and_self] <;> omega) | omega) ?_
    exact W_retF (vs := [_, _]) ⟨rfl, rfl, trivial⟩ (Ent.cons _ (Ent.cons _ (Ent.nil _))) ⟨A1, c1, A2, c2, rfl, rfl⟩
end Go.Proofs.Ytdfibmbedjpcgaa
