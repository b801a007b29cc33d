/- Contracts: an area of a region; something of each of its lines; Take. -/
import Derived.Test.YtdfibmbedjpcgaaO2
set_option linter.unusedVariables false
set_option linter.unusedSimpArgs false
namespace Go.Proofs.Ytdfibmbedjpcgaa
open Go Go.RowKit Eng Ls
attribute [local irreducible] Eng.W

/-- A region, as a value. -/
def rgV (fl fc tl tc kd : Int) : Value := .agg #[.int .i64 fl, .int .i64 fc, .int .i64 tl, .int .i64 tc, .int .i64 kd]
theorem regE_kd {L : List (List Int)} {fl fc tl tc kd : Int} (h : kd < 0 ∨ 2 < kd) : regE L fl fc tl tc kd = 1 := by unfold regE; rw [if_pos h]
theorem regE_no {L : List (List Int)} {fl fc tl tc kd : Int} (h0 : ¬ (kd < 0 ∨ 2 < kd)) (h : L.length = 0 ∨ ¬ (((clipS L fl fc).1 : Int) = fl ∧ ((clipS L fl fc).2 : Int) = fc) ∨ ¬ (((clipS L tl tc).1 : Int) = tl ∧ ((clipS L tl tc).2 : Int) = tc)) : regE L fl fc tl tc kd = 2 := by
  unfold regE; rw [if_neg h0, if_pos h]
theorem regE_ok {L : List (List Int)} {fl fc tl tc kd : Int} (h0 : ¬ (kd < 0 ∨ 2 < kd)) (hn : L.length ≠ 0) (h1 : ((clipS L fl fc).1 : Int) = fl ∧ ((clipS L fl fc).2 : Int) = fc) (h2 : ((clipS L tl tc).1 : Int) = tl ∧ ((clipS L tl tc).2 : Int) = tc) : regE L fl fc tl tc kd = 0 := by
  unfold regE; rw [if_neg h0, if_neg]
  rintro (h | h | h)
  · exact hn h
  · exact h h1
  · exact h h2
theorem eq_and {a b c d : Int} : (decide (a = b) && (decide (c = d) && true)) = true ↔ a = b ∧ c = d := by simp
def AtR (L : List (List Int)) (fl fc tl tc kd : Int) (v : Value) (M : List Ast) : Prop :=
  ∃ av, v = .tuple #[av, .int .i64 (regE L fl fc tl tc kd)] ∧ M = [] ∧ (∃ c1 c2 c3 c4 c5 : Int, av = .agg #[.int .i64 c1, .int .i64 c2, .int .i64 c3, .int .i64 c4, .int .i64 c5]) ∧ (regE L fl fc tl tc kd = 0 → av = areaV kd (regA fl fc tl tc) (regB fl fc tl tc))
set_option maxRecDepth 4000 in
set_option maxHeartbeats 2000000 in
theorem at_c (w : World) (A : Option Addr) (c0 : Nat) (L : List (List Int)) (hl : RowsAt w A L) (hb : L.length + tot L ≤ 1099511627776) (fl fc tl tc kd : Int) :
    Fresh Try.prog 112 [.slice A L.length c0, rgV fl fc tl tc kd] w (AtR L fl fc tl tc kd) := by
  refine enterF Try.func112 rfl Try.ntmps112 rfl rfl ?_
  repeat first | refine W_seq ?_ | refine W_region (by rfl) ?_
  refine W_box (cs := [_, _, _, _, _]) (by rfl) (by rfl) (by rfl) (fun b3 => ?_)
  refine W_alloc (cs := [_, _, _, _, _]) TOk (by rfl) (by rfl) (fun b4 => ?_)
  repeat first | refine W_seq ?_ | refine W_region (by rfl) ?_ | refine W_opsnil ?_ | refine W_pure TOk (by rfl) (by first | trivial | (simp only [okI, and_true, true_and, and_self] <;> omega) | omega) ?_ | refine W_load_box 1 TOk (by rfl) (by rfl) (by rfl) (by rfl) (by rfl) ?_ | refine W_load_boxN 1 TOk (by rfl) (by rfl) (by rfl) (by rfl) (by rfl) ?_
  refine W_alloc (cs := [_, _, _, _, _]) TOk (by rfl) (by rfl) (fun b6 => ?_)
  repeat first | refine W_seq ?_ | refine W_region (by rfl) ?_ | refine W_opsnil ?_ | refine W_pure TOk (by rfl) (by first | trivial | (simp only [okI, and_true, true_and, and_self] <;> omega) | omega) ?_ | refine W_load_box 2 TOk (by rfl) (by rfl) (by rfl) (by rfl) (by rfl) ?_ | (refine W_store_box 0 TOk (by rfl) (by rfl) (by rfl) (by rfl) (by rfl) (by rfl) ?_; dsimp only [setL, putL, vcells])
  refine W_dec 17 (by rfl) (fun h1 => ?_) (fun h1 => ?_)
  · have h1 := of_decide_eq_true h1
    repeat first | refine W_seq ?_ | refine W_region (by rfl) ?_ | refine W_opsnil ?_ | refine W_pure TOk (by rfl) (by first | trivial | (simp only [okI, and_true, true_and, and_self] <;> omega) | omega) ?_ | refine W_off (by rfl) (by rfl) (by rfl) (by rfl) (by rfl) ?_ | refine W_cond_t (by rfl) ?_ | refine W_load_boxN 0 TOk (by rfl) (by rfl) (by rfl) (by rfl) (by rfl) ?_ | (refine W_store_box 1 TOk (by rfl) (by rfl) (by rfl) (by rfl) (by rfl) (by rfl) ?_; dsimp only [setL, putL, vcells])
    exact W_retF (vs := [_, _]) ⟨rv_box 1 TOk rfl rfl rfl, rfl, trivial⟩ (M := []) (Ent.nil _) ⟨_, by rw [regE_kd (.inl h1)]; rfl, rfl, ⟨_, _, _, _, _, rfl⟩, fun h => by rw [regE_kd (.inl h1)] at h; cases h⟩
  · have h1 := of_decide_eq_false h1
    repeat first | refine W_opsnil ?_ | refine W_pure TOk (by rfl) (by first | trivial | (simp only [okI, and_true, true_and, and_self] <;> omega) | omega) ?_ | refine W_on (by rfl) (by rfl) (by rfl) ?_ | refine W_load_box 2 TOk (by rfl) (by rfl) (by rfl) (by rfl) (by rfl) ?_
    refine W_cond_d (by rfl) (fun h2 => ?_) (fun h2 => ?_)
    · repeat first | refine W_seq ?_ | refine W_region (by rfl) ?_ | refine W_opsnil ?_ | refine W_pure TOk (by rfl) (by first | trivial | (simp only [okI, and_true, true_and, and_self] <;> omega) | omega) ?_ | refine W_load_boxN 0 TOk (by rfl) (by rfl) (by rfl) (by rfl) (by rfl) ?_ | (refine W_store_box 1 TOk (by rfl) (by rfl) (by rfl) (by rfl) (by rfl) (by rfl) ?_; dsimp only [setL, putL, vcells])
      exact W_retF (vs := [_, _]) ⟨rv_box 1 TOk rfl rfl rfl, rfl, trivial⟩ (M := []) (Ent.nil _) ⟨_, by rw [regE_kd (.inr h2)]; rfl, rfl, ⟨_, _, _, _, _, rfl⟩, fun h => by rw [regE_kd (.inr h2)] at h; cases h⟩
    · have hk : ¬ (kd < 0 ∨ 2 < kd) := by omega
      repeat first | refine W_seq ?_ | refine W_skip ?_
      refine W_draw (fun w1 => St _ _ w1 _) [] [(0, 0), (1, 0), (2, 0), (3, 0), (4, 0), (5, 0), (6, 0), (8, 0), (9, 0), (7, 1), (10, 0), (11, 0), (12, 0), (13, 0), (14, 0), (15, 0), (17, 0), (18, 0), (16, 1), (19, 0), (20, 0)] (by kernel_rfl) (fun _ h => h) (by rfl) (by kernel_rfl) (fun hB => ?_)
      repeat first | refine D_pure1 TOk (by kernel_rfl) hB (by rfl) (by rfl) (by rfl) (by rfl) (by first | trivial | (simp only [okI, and_true, true_and, and_self] <;> omega) | omega) (fun hB => ?_)
      have hbad : ∀ (F : Fr) (k : List It) (M : List Ast) (cs : List Value), fget F 4 = some (.pointer (some ⟨b4, 0, none⟩)) → fget F 5 = some (.int .i64 2) → M[1]? = some (box b4 159 [.int .i64 kd, .int .i64 fl, .int .i64 fc, .int .i64 tl, .int .i64 tc]) → regE L fl fc tl tc kd = 2 →
          W (cx Try.prog Try.f112 77 w.heap.size w (FR w (AtR L fl fc tl tc kd))) (.code .ret :: k) F M := fun F k M cs h4 h5 hM he => by
        exact W_retF (vs := [_, _]) ⟨rv_box 1 TOk h4 hM rfl, h5, trivial⟩ (M := []) (Ent.nil _) ⟨_, by rw [he]; rfl, rfl, ⟨_, _, _, _, _, rfl⟩, fun h => by rw [he] at h; cases h⟩
      refine W_dec 26 (by rfl) (fun h3 => ?_) (fun h3 => ?_)
      · have h3 := of_decide_eq_true h3
        repeat first | refine D_off (by kernel_rfl) hB (by rfl) (by rfl) (by rfl) (fun hB => ?_)
        refine D_one hB (by rfl) (fun hB => ?_)
        repeat first | refine W_opsnil ?_ | refine W_off (by rfl) (by rfl) (by rfl) (by rfl) (by rfl) ?_
        repeat first | refine D_pure1 TOk (by kernel_rfl) hB (by rfl) (by rfl) (by rfl) (by rfl) (by first | trivial | (simp only [okI, and_true, true_and, and_self] <;> omega) | omega) (fun hB => ?_) | refine D_off (by kernel_rfl) hB (by rfl) (by rfl) (by rfl) (fun hB => ?_) | refine D_shown (fun _ h => h) ?_
        refine D_one hB (by rfl) (fun hB => ?_)
        repeat first | refine W_opsnil ?_ | refine W_off (by rfl) (by rfl) (by rfl) (by rfl) (by rfl) ?_
        repeat first | refine D_pure1 TOk (by kernel_rfl) hB (by rfl) (by rfl) (by rfl) (by rfl) (by first | trivial | (simp only [okI, and_true, true_and, and_self] <;> omega) | omega) (fun hB => ?_) | refine D_off (by kernel_rfl) hB (by rfl) (by rfl) (by rfl) (fun hB => ?_) | refine D_done hB ?_ | refine D_shown (fun _ h => h) ?_
        repeat first | refine W_seq ?_ | refine W_region (by rfl) ?_ | refine W_opsnil ?_ | refine W_pure TOk (by rfl) (by first | trivial | (simp only [okI, and_true, true_and, and_self] <;> omega) | omega) ?_ | refine W_cond_t (by rfl) ?_ | refine W_load_boxN 0 TOk (by rfl) (by rfl) (by rfl) (by rfl) (by rfl) ?_ | (refine W_store_box 1 TOk (by rfl) (by rfl) (by rfl) (by rfl) (by rfl) (by rfl) ?_; dsimp only [setL, putL, vcells])
        exact hbad _ _ _ [] rfl rfl rfl (regE_no hk (.inl (by omega)))
      · have h3 := of_decide_eq_false h3
        repeat first | refine D_pure1 TOk (by kernel_rfl) hB (by rfl) (by rfl) (by rfl) (by rfl) (by first | trivial | (simp only [okI, and_true, true_and, and_self] <;> omega) | omega) (fun hB => ?_) | refine D_load_boxN 2 TOk (by kernel_rfl) hB (by rfl) (by rfl) (by rfl) (by rfl) (by rfl) (by rfl) (fun _ h => h) (by rfl) (fun hB => ?_)
        refine D_one hB (by rfl) (fun hB => ?_)
        repeat first | refine W_on (by rfl) (by rfl) (by rfl) ?_
        refine W_callV (by rfl) Try.call123 (by rfl) (fun w1 hw => Clip_c w1 A c0 L (hl.below hw.below) (by omega) fl fc) ?_
        repeat first | refine W_opsnil ?_
        repeat first | refine D_pure1 TOk (by kernel_rfl) hB (by rfl) (by rfl) (by rfl) (by rfl) (by first | trivial | (simp only [okI, and_true, true_and, and_self] <;> omega) | omega) (fun hB => ?_) | refine D_shown (fun _ h => h) ?_
        refine W_dec 35 (by rfl) (fun h4 => ?_) (fun h4 => ?_)
        · have h4' : ¬ (((clipS L fl fc).1 : Int) = fl ∧ ((clipS L fl fc).2 : Int) = fc) := fun h => by rw [eq_and.2 h] at h4; cases h4
          repeat first | refine D_off (by kernel_rfl) hB (by rfl) (by rfl) (by rfl) (fun hB => ?_)
          refine D_one hB (by rfl) (fun hB => ?_)
          repeat first | refine W_opsnil ?_ | refine W_off (by rfl) (by rfl) (by rfl) (by rfl) (by rfl) ?_
          repeat first | refine D_pure1 TOk (by kernel_rfl) hB (by rfl) (by rfl) (by rfl) (by rfl) (by first | trivial | (simp only [okI, and_true, true_and, and_self] <;> omega) | omega) (fun hB => ?_) | refine D_off (by kernel_rfl) hB (by rfl) (by rfl) (by rfl) (fun hB => ?_) | refine D_done hB ?_ | refine D_shown (fun _ h => h) ?_
          repeat first | refine W_seq ?_ | refine W_region (by rfl) ?_ | refine W_opsnil ?_ | refine W_pure TOk (by rfl) (by first | trivial | (simp only [okI, and_true, true_and, and_self] <;> omega) | omega) ?_ | refine W_cond_t (by rfl) ?_ | refine W_load_boxN 0 TOk (by rfl) (by rfl) (by rfl) (by rfl) (by rfl) ?_ | (refine W_store_box 1 TOk (by rfl) (by rfl) (by rfl) (by rfl) (by rfl) (by rfl) ?_; dsimp only [setL, putL, vcells])
          exact hbad _ _ _ [] rfl rfl rfl (regE_no hk (.inr (.inl h4')))
        · have h4' : ((clipS L fl fc).1 : Int) = fl ∧ ((clipS L fl fc).2 : Int) = fc := eq_and.1 (by simpa using h4)
          repeat first | refine D_pure1 TOk (by kernel_rfl) hB (by rfl) (by rfl) (by rfl) (by rfl) (by first | trivial | (simp only [okI, and_true, true_and, and_self] <;> omega) | omega) (fun hB => ?_) | refine D_load_boxN 2 TOk (by kernel_rfl) hB (by rfl) (by rfl) (by rfl) (by rfl) (by rfl) (by rfl) (fun _ h => h) (by rfl) (fun hB => ?_)
          refine D_one hB (by rfl) (fun hB => ?_)
          repeat first | refine W_on (by rfl) (by rfl) (by rfl) ?_
          refine W_callV (by rfl) Try.call123 (by rfl) (fun w1 hw => Clip_c w1 A c0 L (hl.below hw.below) (by omega) tl tc) ?_
          repeat first | refine W_opsnil ?_
          repeat first | refine D_pure1 TOk (by kernel_rfl) hB (by rfl) (by rfl) (by rfl) (by rfl) (by first | trivial | (simp only [okI, and_true, true_and, and_self] <;> omega) | omega) (fun hB => ?_) | refine D_done hB ?_ | refine D_shown (fun _ h => h) ?_
          refine W_cond (by rfl) (fun h5 => ?_) (fun h5 => ?_)
          · have h5' : ¬ (((clipS L tl tc).1 : Int) = tl ∧ ((clipS L tl tc).2 : Int) = tc) := fun h => by rw [eq_and.2 h] at h5; cases h5
            repeat first | refine W_seq ?_ | refine W_region (by rfl) ?_ | refine W_opsnil ?_ | refine W_pure TOk (by rfl) (by first | trivial | (simp only [okI, and_true, true_and, and_self] <;> omega) | omega) ?_ | refine W_load_boxN 0 TOk (by rfl) (by rfl) (by rfl) (by rfl) (by rfl) ?_ | (refine W_store_box 1 TOk (by rfl) (by rfl) (by rfl) (by rfl) (by rfl) (by rfl) ?_; dsimp only [setL, putL, vcells])
            exact hbad _ _ _ [] rfl rfl rfl (regE_no hk (.inr (.inr h5')))
          · have h5' : ((clipS L tl tc).1 : Int) = tl ∧ ((clipS L tl tc).2 : Int) = tc := eq_and.1 (by simpa using h5)
            have he := regE_ok (kd := kd) hk (by omega) h4' h5'
            obtain ⟨hok, heq⟩ := regOk he
            have hgood : ∀ (F : Fr) (k : List It) (M : List Ast) (a1 a2 a3 a4 : Int), fget F 4 = some (.pointer (some ⟨b4, 0, none⟩)) → fget F 5 = some (.int .i64 0) → M[1]? = some (box b4 159 [.int .i64 kd, .int .i64 a1, .int .i64 a2, .int .i64 a3, .int .i64 a4]) →
                a1 = (regA fl fc tl tc).1 → a2 = (regA fl fc tl tc).2 → a3 = (regB fl fc tl tc).1 → a4 = (regB fl fc tl tc).2 →
                W (cx Try.prog Try.f112 77 w.heap.size w (FR w (AtR L fl fc tl tc kd))) (.code .ret :: k) F M := fun F k M a1 a2 a3 a4 h4 h5 hM e1 e2 e3 e4 => by
              subst e1; subst e2; subst e3; subst e4
              exact W_retF (vs := [_, _]) ⟨rv_box 1 TOk h4 hM rfl, h5, trivial⟩ (M := []) (Ent.nil _) ⟨_, by rw [he]; rfl, rfl, ⟨_, _, _, _, _, rfl⟩, fun h => rfl⟩
            repeat first | refine W_seq ?_ | refine W_skip ?_ | refine W_region (by rfl) ?_ | refine W_pure TOk (by rfl) (by first | trivial | (simp only [okI, and_true, true_and, and_self] <;> omega) | omega) ?_ | refine W_load_box 0 TOk (by rfl) (by rfl) (by rfl) (by rfl) (by rfl) ?_
            refine W_dec 52 (by rfl) (fun h6 => ?_) (fun h6 => ?_)
            · have h6 := of_decide_eq_true h6
              rw [if_pos (show swp fl fc tl tc from .inl h6)] at heq
              repeat first | refine W_seq ?_ | refine W_region (by rfl) ?_ | refine W_opsnil ?_ | refine W_pure TOk (by rfl) (by first | trivial | (simp only [okI, and_true, true_and, and_self] <;> omega) | omega) ?_ | refine W_off (by rfl) (by rfl) (by rfl) (by rfl) (by rfl) ?_ | refine W_offU (by rfl) (by rfl) (by rfl) (by rfl) ?_ | refine W_cond_t (by rfl) ?_ | refine W_load_boxN 0 TOk (by rfl) (by rfl) (by rfl) (by rfl) (by rfl) ?_ | (refine W_store_box 0 TOk (by rfl) (by rfl) (by rfl) (by rfl) (by rfl) (by rfl) ?_; dsimp only [setL, putL, vcells]) | (refine W_store_box 1 TOk (by rfl) (by rfl) (by rfl) (by rfl) (by rfl) (by rfl) ?_; dsimp only [setL, putL, vcells])
              exact hgood _ _ _ _ _ _ _ rfl rfl rfl heq.2.2.1 heq.2.2.2 heq.1 heq.2.1
            · have h6 := of_decide_eq_false h6
              repeat first | refine W_pure TOk (by rfl) (by first | trivial | (simp only [okI, and_true, true_and, and_self] <;> omega) | omega) ?_ | refine W_on (by rfl) (by rfl) (by rfl) ?_ | refine W_load_box 0 TOk (by rfl) (by rfl) (by rfl) (by rfl) (by rfl) ?_
              refine W_dec 60 (by rfl) (fun h7 => ?_) (fun h7 => ?_)
              · have h7 := of_decide_eq_true h7
                repeat first | refine W_opsnil ?_ | refine W_pure TOk (by rfl) (by first | trivial | (simp only [okI, and_true, true_and, and_self] <;> omega) | omega) ?_ | refine W_on (by rfl) (by rfl) (by rfl) ?_ | refine W_load_box 0 TOk (by rfl) (by rfl) (by rfl) (by rfl) (by rfl) ?_
                refine W_cond_d (by rfl) (fun h8 => ?_) (fun h8 => ?_)
                · rw [if_pos (show swp fl fc tl tc from .inr ⟨h7, h8⟩)] at heq
                  repeat first | refine W_seq ?_ | refine W_region (by rfl) ?_ | refine W_opsnil ?_ | refine W_pure TOk (by rfl) (by first | trivial | (simp only [okI, and_true, true_and, and_self] <;> omega) | omega) ?_ | refine W_load_boxN 0 TOk (by rfl) (by rfl) (by rfl) (by rfl) (by rfl) ?_ | (refine W_store_box 0 TOk (by rfl) (by rfl) (by rfl) (by rfl) (by rfl) (by rfl) ?_; dsimp only [setL, putL, vcells]) | (refine W_store_box 1 TOk (by rfl) (by rfl) (by rfl) (by rfl) (by rfl) (by rfl) ?_; dsimp only [setL, putL, vcells])
                  exact hgood _ _ _ _ _ _ _ rfl rfl rfl heq.2.2.1 heq.2.2.2 heq.1 heq.2.1
                · rw [if_neg (show ¬ swp fl fc tl tc by unfold swp; omega)] at heq
                  repeat first | refine W_seq ?_ | refine W_skip ?_ | refine W_region (by rfl) ?_ | refine W_opsnil ?_ | refine W_pure TOk (by rfl) (by first | trivial | (simp only [okI, and_true, true_and, and_self] <;> omega) | omega) ?_ | refine W_load_boxN 0 TOk (by rfl) (by rfl) (by rfl) (by rfl) (by rfl) ?_ | (refine W_store_box 1 TOk (by rfl) (by rfl) (by rfl) (by rfl) (by rfl) (by rfl) ?_; dsimp only [setL, putL, vcells])
                  exact hgood _ _ _ _ _ _ _ rfl rfl rfl heq.1 heq.2.1 heq.2.2.1 heq.2.2.2
              · have h7 := of_decide_eq_false h7
                rw [if_neg (show ¬ swp fl fc tl tc by unfold swp; omega)] at heq
                repeat first | refine W_seq ?_ | refine W_skip ?_ | refine W_region (by rfl) ?_ | refine W_opsnil ?_ | refine W_pure TOk (by rfl) (by first | trivial | (simp only [okI, and_true, true_and, and_self] <;> omega) | omega) ?_ | refine W_on (by rfl) (by rfl) (by rfl) ?_ | refine W_off (by rfl) (by rfl) (by rfl) (by rfl) (by rfl) ?_ | refine W_cond_f (by rfl) ?_ | refine W_load_boxN 0 TOk (by rfl) (by rfl) (by rfl) (by rfl) (by rfl) ?_ | (refine W_store_box 1 TOk (by rfl) (by rfl) (by rfl) (by rfl) (by rfl) (by rfl) ?_; dsimp only [setL, putL, vcells])
                exact hgood _ _ _ _ _ _ _ rfl rfl rfl heq.1 heq.2.1 heq.2.2.1 heq.2.2.2
/-! ### Something of each line -/
set_option maxRecDepth 4000 in
set_option maxHeartbeats 2000000 in
theorem gather_c (w : World) (gf : Nat) (g : List Int → Nat → Nat → List Int) (hgf : ∀ args w, (callFunc gf args).run Try.prog w = .ok (.enter gf args) w)
    (hg : ∀ w1, Below w.heap.size w w1 → ∀ (B : Option Addr) (c : Nat) (x : List Int) (f t : Nat), Cells w1 B (i32s x) → x.length ≤ c → x.length ≤ 1073741824 → f ≤ t → t ≤ x.length → Fresh Try.prog gf [.slice B x.length c, .int .i64 (f : Nat), .int .i64 (t : Nat)] w1 (RowR (g x f t)))
    (hgl : ∀ x f t, f ≤ t → t ≤ x.length → (g x f t).length ≤ x.length)
    (A : Option Addr) (c0 : Nat) (L : List (List Int)) (hl : RowsAt w A L) (hb : L.length + tot L ≤ 1073741824) (kd : Int) (a b : Nat × Nat) (hok : RegOk L kd a b) :
    Fresh Try.prog 113 [areaV kd a b, .slice A L.length c0, .func (.func gf) #[] #[]] w (RowsR (gathS g L kd a b (b.1 + 1 - a.1))) := by
  have hle := hok.le
  have hlt := hok.lt
  refine enterF Try.func113 rfl Try.ntmps113 rfl rfl ?_
  repeat first | refine W_seq ?_ | refine W_region (by rfl) ?_
  refine W_box (cs := [_, _, _, _, _]) (by rfl) (by rfl) (by rfl) (fun b3 => ?_)
  repeat first | refine W_seq ?_ | refine W_block ?_ | refine W_region (by rfl) ?_ | refine W_opsnil ?_ | refine W_pure TOk (by rfl) (by first | trivial | (simp only [okI, and_true, true_and, and_self] <;> omega) | omega) ?_ | refine W_load_box 0 TOk (by rfl) (by rfl) (by rfl) (by rfl) (by rfl) ?_
  refine W_loop (ι := Nat × Option Addr × Nat × List Value) (fun q => [(1, .slice A L.length c0), (2, .func (.func gf) #[] #[]), (3, .pointer (some ⟨b3, 0, none⟩)), (7, .slice q.2.1 q.1 q.2.2.1), (8, .int .i64 ((a.1 + q.1 : Nat) : Int))]) (fun q => [own 48 1 q.2.1 q.1 q.2.2.1 q.2.2.2, rowsA q.2.2.2 (gathS g L kd a b q.1), box b3 159 [.int .i64 kd, .int .i64 (a.1 : Nat), .int .i64 (a.2 : Nat), .int .i64 (b.1 : Nat), .int .i64 (b.2 : Nat)]])
    (fun q => q.1 ≤ b.1 + 1 - a.1 ∧ q.2.2.2.length = q.1) (fun q => b.1 + 1 - a.1 - q.1) (0, none, 0, []) ⟨by omega, rfl⟩ ⟨rfl, rfl, rfl, rfl, rfl, trivial⟩ ((Ent.rowsA_nil _).trans (Ent.own_zero _ _ _ _)) ?_
  rintro ⟨n, A1, c1, vs⟩ ⟨hn, hvl⟩
  dsimp only at hn hvl ⊢
  repeat first | refine W_seq ?_ | refine W_region (by rfl) ?_ | refine W_opsnil ?_ | refine W_pure TOk (by rfl) (by first | trivial | (simp only [okI, and_true, true_and, and_self] <;> omega) | omega) ?_ | refine W_load_box 2 TOk (by rfl) (by rfl) (by rfl) (by rfl) (by rfl) ?_
  refine W_cond_d (by rfl) (fun hle2 => ?_) (fun hgt => ?_)
  · obtain ⟨B, cB, hcB, hB_, hvs⟩ := hl.row (i := ((a.1 + n : Nat) : Int)) (by omega) (by omega)
    rw [rowN_rw] at hvs hB_ hcB
    have hrl := rowN_len (xss := L) (i := a.1 + n) (by omega)
    have hcl := col_le kd a b (rowN L (a.1 + n)).length (a.1 + n)
    have hgn := hgl (rowN L (a.1 + n)) _ _ hcl.1 hcl.2
    repeat first | refine W_seq ?_ | refine W_skip ?_ | refine W_block ?_ | refine W_region (by rfl) ?_ | refine W_pure TOk (by rfl) (by first | trivial | (simp only [okI, and_true, true_and, and_self] <;> omega) | omega) ?_ | refine W_load_boxN 2 TOk (by rfl) (by rfl) (by rfl) (by rfl) (by rfl) ?_
    refine W_callV (by rfl) Try.call177 (by rfl) (fun w1 hw => columns_c w1 A c0 L (hl.below hw.below) (by omega) kd a b (a.1 + n) hok (by omega) (by omega)) ?_
    repeat first | refine W_region (by rfl) ?_ | refine W_opsnil ?_ | refine W_pure TOk (by rfl) (by first | trivial | (simp only [okI, and_true, true_and, and_self] <;> omega) | omega) ?_
    refine W_index TOk (by rfl) (by rfl) (by rfl) (by first | exact es48 | exact es22 | exact es136 | exact es150 | exact es223 | exact es29 | exact es132 | exact es207) (by omega) (by omega) (fun w1 hw => (hl.below hw.below).isSome (by omega)) ?_
    refine W_load TOk (by rfl) (by rfl) (by rfl) (fun w1 hw => cells_elem1 hvs hw.below) ?_
    repeat first | refine W_pure TOk (by rfl) (by first | trivial | (simp only [okI, and_true, true_and, and_self] <;> omega) | omega) ?_
    refine W_callF (us := [.slice B (rowN L (a.1 + n)).length cB, .int .i64 (colF kd a b (rowN L (a.1 + n)).length (a.1 + n) : Nat), .int .i64 (colT kd a b (rowN L (a.1 + n)).length (a.1 + n) : Nat)]) (RowR (g (rowN L (a.1 + n)) (colF kd a b (rowN L (a.1 + n)).length (a.1 + n)) (colT kd a b (rowN L (a.1 + n)).length (a.1 + n)))) (by rfl) (by rfl) hgf (by rfl) (by rfl) (fun w1 hw => hg w1 hw.below B cB (rowN L (a.1 + n)) _ _ (hB_.below hw.below) hcB (by omega) hcl.1 hcl.2) ?_
    rintro _ _ ⟨A2, c2, rfl, rfl⟩
    dsimp only [List.cons_append, List.nil_append]
    refine W_lit TOk (cs := [_]) (by rfl) (by first | exact sl48 | exact sl22 | exact sl136 | exact sl150 | exact sl223 | exact sl29 | exact sl132 | exact sl207) (by rfl) (by rfl) (by rfl) (by rfl) (fun g1 => ?_)
    refine W_append_own 2 TOk (by rfl) (by rfl) (by rfl) (by first | exact sl48 | exact sl22 | exact sl136 | exact sl150 | exact sl223 | exact sl29 | exact sl132 | exact sl207) (by rfl) (fun w1 hw => hw.hp.cells 0 rfl) (by simp [i32s_length, i64s_length]) (by first | exact i32s_one _ | exact i64s_one _ | exact one_of _ rfl) (by unfold maxLen; omega) (by omega) (fun A3 c3 => ?_); dsimp only [setL]
    repeat first | refine W_blk ?_ | refine W_region (by rfl) ?_ | refine W_opsnil ?_ | refine W_pure TOk (by rfl) (by first | trivial | (simp only [okI, and_true, true_and, and_self] <;> omega) | omega) ?_
    refine W_inv (n + 1, A3, c3, vs ++ [.slice A2 (g (rowN L (a.1 + n)) (colF kd a b (rowN L (a.1 + n)).length (a.1 + n)) (colT kd a b (rowN L (a.1 + n)).length (a.1 + n))).length c2]) ⟨by dsimp only; omega, by dsimp only; simp [hvl]⟩ (by dsimp only; omega) ⟨rfl, rfl, rfl, rfl, rfl, trivial⟩ ?_
    dsimp only
    rw [gathS_succ]
    refine (Ent.drop1 _ _).trans ?_
    exact Ent.push_row (vs := vs) (xss := gathS g L kd a b n) (by rw [hvl, gathS_length]) A2 c2 _ _ _
  · have e : n = b.1 + 1 - a.1 := by omega
    subst e
    repeat first | refine W_seq ?_ | refine W_exit (by rfl) ?_ | refine W_region (by rfl) ?_ | refine W_opsnil ?_ | refine W_pure TOk (by rfl) (by first | trivial | (simp only [okI, and_true, true_and, and_self] <;> omega) | omega) ?_
    refine W_retF (vs := [_]) ⟨rfl, trivial⟩ (M := [own 48 1 A1 (b.1 + 1 - a.1) c1 vs, rowsA vs (gathS g L kd a b (b.1 + 1 - a.1))]) (Ent.cons _ (Ent.cons _ (Ent.nil _))) ⟨A1, c1, vs, ?_, by rw [hvl, gathS_length], ?_⟩
    · rw [gathS_length]; rfl
    · rw [gathS_length]
set_option maxHeartbeats 1000000 in
theorem TakeF_c (w : World) (B : Option Addr) (c : Nat) (x : List Int) (f t : Nat) (hx : Cells w B (i32s x)) (hc : x.length ≤ c) (hb : x.length ≤ 1099511627776) (hft : f ≤ t) (ht : t ≤ x.length) :
    Fresh Try.prog 114 [.slice B x.length c, .int .i64 (f : Nat), .int .i64 (t : Nat)] w (RowR (cutIn x f t)) := by
  have hlen := cutIn_len hft ht
  refine enterF Try.func114 rfl Try.ntmps114 rfl rfl ?_
  repeat first | refine W_seq ?_ | refine W_region (by rfl) ?_ | refine W_opsnil ?_ | refine W_pure TOk (by rfl) (by first | trivial | (simp only [okI, and_true, true_and, and_self] <;> omega) | omega) ?_
  simp only [Int.toNat_natCast]
  rw [← hlen]
  refine W_call _ (by rfl) Try.call115 (by rfl) (fun w1 hw => Clone_c w1 (cutA B f c 1) (c - f) (cutIn x f t) ((hx.below hw.below).cut32 f t c (by omega)) (by omega)) ?_; rintro _ _ ⟨A2, c2, rfl, rfl⟩; dsimp only [List.cons_append, List.nil_append]
  repeat first | refine W_opsnil ?_ | refine W_pure TOk (by rfl) (by first | trivial | (simp only [okI, and_true, true_and, and_self] <;> omega) | omega) ?_
  exact W_retF (vs := [_]) ⟨rfl, trivial⟩ (Ent.refl _) ⟨A2, c2, rfl, rfl⟩
theorem rows_pair {w : World} {A B0 B1 : Option Addr} {n0 n1 c0 c1 : Nat} {r0 r1 : List Int} (h : Cells w A [.slice B0 n0 c0, .slice B1 n1 c1]) (e0 : n0 = r0.length) (e1 : n1 = r1.length) (h0 : Cells w B0 (i32s r0)) (h1 : Cells w B1 (i32s r1)) (k0 : r0.length ≤ c0) (k1 : r1.length ≤ c1) : RowsAt w A [r0, r1] := by
  subst e0; subst e1
  refine ⟨_, h, rfl, fun i xs hi => ?_⟩
  match i, hi with
  | 0, hi =>
    have : xs = r0 := by simpa using hi.symm
    subst this
    exact ⟨B0, c0, rfl, k0, h0⟩
  | 1, hi =>
    have : xs = r1 := by simpa using hi.symm
    subst this
    exact ⟨B1, c1, rfl, k1, h1⟩
  | i + 2, hi => simp at hi
set_option maxHeartbeats 1000000 in
theorem CutF_c (w : World) (B : Option Addr) (c : Nat) (x : List Int) (f t : Nat) (hx : Cells w B (i32s x)) (hc : x.length ≤ c) (hb : x.length ≤ 1073741824) (hft : f ≤ t) (ht : t ≤ x.length) :
    Fresh Try.prog 119 [.slice B x.length c, .int .i64 (f : Nat), .int .i64 (t : Nat)] w (RowR (cutOut x f t)) := by
  have e0 : ((x.drop 0).take (f - 0)).length = f := by simp; omega
  have e1 : ((x.drop t).take (x.length - t)).length = x.length - t := by simp
  refine enterF Try.func119 rfl Try.ntmps119 rfl rfl ?_
  repeat first | refine W_seq ?_ | refine W_region (by rfl) ?_ | refine W_opsnil ?_ | refine W_pure TOk (by rfl) (by first | trivial | (simp only [okI, and_true, true_and, and_self] <;> omega) | omega) ?_
  refine W_draw (fun w1 => St _ _ w1 _) [] [(0, 0), (1, 0), (2, 0), (3, 0), (4, 0), (5, 0), (6, 1), (7, 1), (8, 0)] (by kernel_rfl) (fun _ h => h) (by rfl) (by kernel_rfl) (fun hB => ?_)
  repeat first | refine D_pure TOk (by kernel_rfl) hB (by rfl) (by rfl) (by first | trivial | (simp only [okI, and_true, true_and, and_self] <;> omega) | omega) (fun hB => ?_)
  refine D_one hB (by rfl) (fun hB => ?_)
  refine W_lit TOk (cs := [_, _]) (by rfl) sl22 (by rfl) (by rfl) (by rfl) (by rfl) (fun g => ?_)
  repeat first | refine W_opsnil ?_
  repeat first | refine D_shown (fun _ h => h.ent (Ent.drop1 _ _)) ?_
  refine D_one hB (by rfl) (fun hB => ?_)
  simp only [Int.toNat_natCast, Int.toNat_zero, Nat.sub_zero]
  refine W_call _ (by rfl) Try.call120 (by rfl) (fun w1 hw => Concat_c w1 (some ⟨g, 0, none⟩) 2 [(x.drop 0).take (f - 0), (x.drop t).take (x.length - t)] (rows_pair (hw.hp.cells 0 rfl) e0.symm e1.symm ((hx.below hw.below).cut32 0 f c (by omega)) ((hx.below hw.below).cut32 t x.length c (by omega)) (by omega) (by omega)) (by simp only [tot, List.length_cons, List.length_nil]; omega)) ?_
  have ef : [(x.drop 0).take (f - 0), (x.drop t).take (x.length - t)].flatten = cutOut x f t := by
    unfold cutOut
    simp only [List.flatten_cons, List.flatten_nil, List.append_nil, List.drop_zero, Nat.sub_zero]
    rw [List.take_of_length_le (l := x.drop t) (by simp)]
  rw [ef]
  rintro _ _ ⟨A2, c2, rfl, rfl⟩
  dsimp only [List.cons_append, List.nil_append]
  repeat first | refine W_opsnil ?_
  repeat first | refine D_pure TOk (by kernel_rfl) hB (by rfl) (by rfl) (by first | trivial | (simp only [okI, and_true, true_and, and_self] <;> omega) | omega) (fun hB => ?_) | refine D_done hB ?_ | refine D_shown (fun _ h => h.ent (Ent.drop2 _ _ _)) ?_
  exact W_retF (vs := [_]) ⟨rfl, trivial⟩ (M := [own 21 1 A2 (cutOut x f t).length c2 (i32s (cutOut x f t))]) (Ent.cons _ (Ent.nil _)) ⟨A2, c2, rfl, rfl⟩
/-! ### Take -/
def rgN (a b : Nat × Nat) : Nat := b.1 + 1 - a.1
def takeS (L : List (List Int)) (fl fc tl tc kd : Int) : List (List Int) := gathS cutIn L kd (regA fl fc tl tc) (regB fl fc tl tc) (rgN (regA fl fc tl tc) (regB fl fc tl tc))
def TakeR (L : List (List Int)) (fl fc tl tc kd : Int) (v : Value) (M : List Ast) : Prop :=
  (regE L fl fc tl tc kd ≠ 0 ∧ v = .tuple #[.agg #[.int .i64 0, .slice none 0 0], .int .i64 (regE L fl fc tl tc kd)] ∧ M = []) ∨
  (regE L fl fc tl tc kd = 0 ∧ ∃ A c vs, v = .tuple #[.agg #[.int .i64 kd, .slice A (takeS L fl fc tl tc kd).length c], .int .i64 0] ∧ vs.length = (takeS L fl fc tl tc kd).length ∧ M = [own 48 1 A (takeS L fl fc tl tc kd).length c vs, rowsA vs (takeS L fl fc tl tc kd)])
set_option maxRecDepth 4000 in
set_option maxHeartbeats 2000000 in
theorem Take_c (w : World) (A : Option Addr) (c0 : Nat) (L : List (List Int)) (hl : RowsAt w A L) (hb : L.length + tot L ≤ 1073741824) (fl fc tl tc kd : Int) :
    Fresh Try.prog 47 [.slice A L.length c0, rgV fl fc tl tc kd] w (TakeR L fl fc tl tc kd) := by
  refine enterF Try.func47 rfl Try.ntmps47 rfl rfl ?_
  repeat first | refine W_seq ?_ | refine W_region (by rfl) ?_
  refine W_box (cs := [_, _, _, _, _]) (by rfl) (by rfl) (by rfl) (fun b3 => ?_)
  refine W_alloc (cs := [_, _]) TOk (by rfl) (by rfl) (fun b4 => ?_)
  repeat first | refine W_seq ?_ | refine W_region (by rfl) ?_ | refine W_opsnil ?_ | refine W_pure TOk (by rfl) (by first | trivial | (simp only [okI, and_true, true_and, and_self] <;> omega) | omega) ?_ | refine W_load_boxN 1 TOk (by rfl) (by rfl) (by rfl) (by rfl) (by rfl) ?_
  refine W_call _ (by rfl) Try.call112 (by rfl) (fun w1 hw => at_c w1 A c0 L (hl.below hw.below) (by omega) fl fc tl tc kd) ?_
  rintro _ _ ⟨_, rfl, rfl, ⟨c1, c2, c3, c4, c5, rfl⟩, hav⟩
  dsimp only [List.cons_append, List.nil_append]
  repeat first | refine W_pure TOk (by rfl) (by first | trivial | (simp only [okI, and_true, true_and, and_self] <;> omega) | omega) ?_
  refine W_alloc (cs := [_, _, _, _, _]) TOk (by rfl) (by rfl) (fun b6 => ?_)
  repeat first | refine W_seq ?_ | refine W_region (by rfl) ?_ | refine W_opsnil ?_ | refine W_pure TOk (by rfl) (by first | trivial | (simp only [okI, and_true, true_and, and_self] <;> omega) | omega) ?_ | (refine W_store_box 0 TOk (by rfl) (by rfl) (by rfl) (by rfl) (by rfl) (by rfl) ?_; dsimp only [setL, putL, vcells])
  refine W_cond_nd (by rfl) (fun hne => ?_) (fun he => ?_)
  · repeat first | refine W_seq ?_ | refine W_region (by rfl) ?_ | refine W_opsnil ?_ | refine W_pure TOk (by rfl) (by first | trivial | (simp only [okI, and_true, true_and, and_self] <;> omega) | omega) ?_ | (refine W_store_box 1 TOk (by rfl) (by rfl) (by rfl) (by rfl) (by rfl) (by rfl) ?_; dsimp only [setL, putL, vcells])
    exact W_retF (vs := [_, _]) ⟨rv_box 1 TOk rfl rfl rfl, rfl, trivial⟩ (M := []) (Ent.nil _) (.inl ⟨hne, rfl, rfl⟩)
  · have hav := hav he
    obtain ⟨hok, heq⟩ := regOk he
    unfold areaV at hav
    injection hav with hav
    injection hav with hav
    simp only [List.cons.injEq, Value.int.injEq, true_and, and_true] at hav
    obtain ⟨rfl, rfl, rfl, rfl, rfl⟩ := hav
    repeat first | refine W_seq ?_ | refine W_skip ?_
    refine W_draw (fun w1 => St _ _ w1 _) [6] [(0, 0), (1, 0), (2, 0), (3, 0), (4, 1), (5, 0), (6, 2), (7, 0)] (by kernel_rfl) (fun _ h => h) (by rfl) (by kernel_rfl) (fun hB => ?_)
    repeat first | refine D_pure TOk (by kernel_rfl) hB (by rfl) (by rfl) (by first | trivial | (simp only [okI, and_true, true_and, and_self] <;> omega) | omega) (fun hB => ?_) | refine D_load_box 2 TOk (by kernel_rfl) hB (by rfl) (by rfl) (by rfl) (by rfl) (by rfl) (fun _ h => h) (by rfl) (by rfl) (fun hB => ?_) | refine D_load_boxN 0 TOk (by kernel_rfl) hB (by rfl) (by rfl) (by rfl) (by rfl) (by rfl) (by rfl) (fun _ h => h) (by rfl) (fun hB => ?_)
    refine D_one hB (by rfl) (fun hB => ?_)
    refine W_call _ (by rfl) Try.call113 (by rfl) (fun w1 hw => gather_c w1 114 cutIn Try.call114 (fun w2 hb2 B c x f t h1 h2 h3 h4 h5 => TakeF_c w2 B c x f t h1 h2 (by omega) h4 h5) (fun x f t h1 h2 => by rw [cutIn_len h1 h2]; omega) A c0 L (hl.below hw.below) hb _ _ _ hok) ?_
    rintro _ _ ⟨A2, c2, vs, rfl, hvs, rfl⟩
    dsimp only [List.cons_append, List.nil_append]
    repeat first | refine W_opsnil ?_
    repeat first | refine D_pure TOk (by kernel_rfl) hB (by rfl) (by rfl) (by first | trivial | (simp only [okI, and_true, true_and, and_self] <;> omega) | omega) (fun hB => ?_) | refine D_shown (fun _ h => h.ent (Ent.drop2 _ _ _)) ?_
    refine D_last hB (by rfl) (fun hB => ?_)
    repeat first | refine W_opsnil ?_ | (refine W_store_box 3 TOk (by rfl) (by rfl) (by rfl) (by rfl) (by rfl) (by rfl) ?_; dsimp only [setL, putL, vcells])
    repeat first | refine D_pure TOk (by kernel_rfl) hB (by rfl) (by rfl) (by first | trivial | (simp only [okI, and_true, true_and, and_self] <;> omega) | omega) (fun hB => ?_) | refine D_done hB ?_
    exact W_retF (vs := [_, _]) ⟨rv_box 3 TOk rfl rfl rfl, rfl, trivial⟩ (Ent.cons _ (Ent.cons _ (Ent.nil _))) (.inr ⟨he, A2, c2, vs, rfl, hvs, rfl⟩)
end Go.Proofs.Ytdfibmbedjpcgaa
