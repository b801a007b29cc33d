/- Contracts: classes of runes, cursor's places, the first rune that is not blank, rows cloned. -/
import Derived.Test.YtdfibmbedjpcgaaLo
import Derived.Test.YtdfibmbedjpcgaaEngC
set_option linter.unusedVariables false
set_option linter.unusedSimpArgs false
namespace Go.Proofs.Ytdfibmbedjpcgaa
open Go Go.RowKit Eng Ls
attribute [local irreducible] Eng.W

theorem word_t {r : Int} (h : 128 ≤ r ∨ r = 95 ∨ (48 ≤ r ∧ r ≤ 57) ∨ (65 ≤ r ∧ r ≤ 90) ∨ (97 ≤ r ∧ r ≤ 122)) : wordS r = true := by
  unfold wordS
  simp only [Bool.or_eq_true, Bool.and_eq_true, decide_eq_true_eq]
  omega
theorem word_f {r : Int} (h : ¬ (128 ≤ r ∨ r = 95 ∨ (48 ≤ r ∧ r ≤ 57) ∨ (65 ≤ r ∧ r ≤ 90) ∨ (97 ≤ r ∧ r ≤ 122))) : wordS r = false := by
  rw [Bool.eq_false_iff]
  unfold wordS
  simp only [ne_eq, Bool.or_eq_true, Bool.and_eq_true, decide_eq_true_eq]
  omega
set_option maxRecDepth 4000 in
set_option maxHeartbeats 1000000 in
theorem Word_c (w : World) (r : Int) : Val Try.prog 203 [.int .i32 r] w (.bool (wordS r)) := by
  refine enterF Try.func203 rfl Try.ntmps203 rfl rfl ?_
  repeat first | refine W_seq ?_ | refine W_block ?_ | refine W_region (by rfl) ?_ | refine W_opsnil ?_ | refine W_pure TOk (by rfl) (by first | trivial | (simp only [okI, and_true, true_and, and_self] <;> omega) | omega) ?_
  refine W_dec 3 (by rfl) (fun h1 => ?_) (fun h1 => ?_)
  · have h1 := of_decide_eq_true h1
    repeat first | refine W_seq ?_ | refine W_skip ?_ | refine W_region (by rfl) ?_ | refine W_opsnil ?_ | refine W_pure TOk (by rfl) (by first | trivial | (simp only [okI, and_true, true_and, and_self] <;> omega) | omega) ?_ | refine W_cond_t (by rfl) ?_
    exact W_retF (vs := [_]) ⟨rfl, trivial⟩ (Ent.refl _) ⟨by rw [word_t (by omega)]; rfl, rfl⟩
  · have h1 := of_decide_eq_false h1
    repeat first | refine W_region (by rfl) ?_ | refine W_opsnil ?_ | refine W_pure TOk (by rfl) (by first | trivial | (simp only [okI, and_true, true_and, and_self] <;> omega) | omega) ?_ | refine W_cond_f (by rfl) ?_
    refine W_dec 3 (by rfl) (fun h2 => ?_) (fun h2 => ?_)
    · have h2 := of_decide_eq_true h2
      repeat first | refine W_seq ?_ | refine W_region (by rfl) ?_ | refine W_opsnil ?_ | refine W_pure TOk (by rfl) (by first | trivial | (simp only [okI, and_true, true_and, and_self] <;> omega) | omega) ?_ | refine W_cond_t (by rfl) ?_
      exact W_retF (vs := [_]) ⟨rfl, trivial⟩ (Ent.refl _) ⟨by rw [word_t (by omega)]; rfl, rfl⟩
    · have h2 := of_decide_eq_false h2
      repeat first | refine W_seq ?_ | refine W_region (by rfl) ?_ | refine W_opsnil ?_ | refine W_pure TOk (by rfl) (by first | trivial | (simp only [okI, and_true, true_and, and_self] <;> omega) | omega) ?_ | refine W_cond_f (by rfl) ?_
      refine W_cond_d (by rfl) (fun h3 => ?_) (fun h3 => ?_)
      · repeat first | refine W_seq ?_ | refine W_region (by rfl) ?_ | refine W_opsnil ?_ | refine W_pure TOk (by rfl) (by first | trivial | (simp only [okI, and_true, true_and, and_self] <;> omega) | omega) ?_
        exact W_retF (vs := [_]) ⟨rfl, trivial⟩ (Ent.refl _) ⟨by rw [word_f (by omega)]; rfl, rfl⟩
      · repeat first | refine W_seq ?_ | refine W_skip ?_ | refine W_blk ?_ | refine W_region (by rfl) ?_ | refine W_pure TOk (by rfl) (by first | trivial | (simp only [okI, and_true, true_and, and_self] <;> omega) | omega) ?_
        refine W_dec 13 (by rfl) (fun h4 => ?_) (fun h4 => ?_)
        · have h4 := of_decide_eq_true h4
          repeat first | refine W_opsnil ?_ | refine W_pure TOk (by rfl) (by first | trivial | (simp only [okI, and_true, true_and, and_self] <;> omega) | omega) ?_ | refine W_off (by rfl) (by rfl) (by rfl) (by rfl) (by rfl) ?_ | refine W_offU (by rfl) (by rfl) (by rfl) (by rfl) ?_
          exact W_retF (vs := [_]) ⟨rfl, trivial⟩ (Ent.refl _) ⟨by rw [word_t (by omega)]; rfl, rfl⟩
        · have h4 := of_decide_eq_false h4
          repeat first | refine W_pure TOk (by rfl) (by first | trivial | (simp only [okI, and_true, true_and, and_self] <;> omega) | omega) ?_ | refine W_on (by rfl) (by rfl) (by rfl) ?_
          refine W_dec 16 (by rfl) (fun h5 => ?_) (fun h5 => ?_)
          · have h5 := of_decide_eq_true h5
            repeat first | refine W_pure TOk (by rfl) (by first | trivial | (simp only [okI, and_true, true_and, and_self] <;> omega) | omega) ?_ | refine W_on (by rfl) (by rfl) (by rfl) ?_
            refine W_dec 21 (by rfl) (fun h6 => ?_) (fun h6 => ?_)
            · have h6 := of_decide_eq_true h6
              repeat first | refine W_opsnil ?_ | refine W_pure TOk (by rfl) (by first | trivial | (simp only [okI, and_true, true_and, and_self] <;> omega) | omega) ?_ | refine W_off (by rfl) (by rfl) (by rfl) (by rfl) (by rfl) ?_ | refine W_offU (by rfl) (by rfl) (by rfl) (by rfl) ?_
              exact W_retF (vs := [_]) ⟨rfl, trivial⟩ (Ent.refl _) ⟨by rw [word_t (by omega)]; rfl, rfl⟩
            · have h6 := of_decide_eq_false h6
              repeat first | refine W_pure TOk (by rfl) (by first | trivial | (simp only [okI, and_true, true_and, and_self] <;> omega) | omega) ?_ | refine W_on (by rfl) (by rfl) (by rfl) ?_
              refine W_dec 24 (by rfl) (fun h7 => ?_) (fun h7 => ?_)
              · have h7 := of_decide_eq_true h7
                repeat first | refine W_opsnil ?_ | refine W_pure TOk (by rfl) (by first | trivial | (simp only [okI, and_true, true_and, and_self] <;> omega) | omega) ?_ | refine W_on (by rfl) (by rfl) (by rfl) ?_
                refine W_retF (vs := [_]) ⟨rfl, trivial⟩ (Ent.refl _) ⟨?_, rfl⟩
                by_cases h8 : r ≤ 122
                · rw [word_t (by omega), decide_eq_true h8]; rfl
                · rw [word_f (by omega), decide_eq_false h8]; rfl
              · have h7 := of_decide_eq_false h7
                repeat first | refine W_opsnil ?_ | refine W_pure TOk (by rfl) (by first | trivial | (simp only [okI, and_true, true_and, and_self] <;> omega) | omega) ?_ | refine W_on (by rfl) (by rfl) (by rfl) ?_ | refine W_off (by rfl) (by rfl) (by rfl) (by rfl) (by rfl) ?_
                exact W_retF (vs := [_]) ⟨rfl, trivial⟩ (Ent.refl _) ⟨by rw [word_f (by omega)]; rfl, rfl⟩
          · have h5 := of_decide_eq_false h5
            repeat first | refine W_pure TOk (by rfl) (by first | trivial | (simp only [okI, and_true, true_and, and_self] <;> omega) | omega) ?_ | refine W_on (by rfl) (by rfl) (by rfl) ?_ | refine W_off (by rfl) (by rfl) (by rfl) (by rfl) (by rfl) ?_
            refine W_dec 24 (by rfl) (fun h7 => ?_) (fun h7 => ?_)
            · have h7 := of_decide_eq_true h7
              exact absurd h7 (by omega)
            · have h7 := of_decide_eq_false h7
              repeat first | refine W_opsnil ?_ | refine W_pure TOk (by rfl) (by first | trivial | (simp only [okI, and_true, true_and, and_self] <;> omega) | omega) ?_ | refine W_on (by rfl) (by rfl) (by rfl) ?_ | refine W_off (by rfl) (by rfl) (by rfl) (by rfl) (by rfl) ?_
              exact W_retF (vs := [_]) ⟨rfl, trivial⟩ (Ent.refl _) ⟨by rw [word_f (by omega)]; rfl, rfl⟩
set_option maxRecDepth 4000 in
set_option maxHeartbeats 1000000 in
theorem RWord_c (w : World) (r : Int) : Val Try.prog 204 [.int .i32 r] w (.bool (wordS r)) := by
  refine enterF Try.func204 rfl Try.ntmps204 rfl rfl ?_
  repeat first | refine W_seq ?_ | refine W_region (by rfl) ?_ | refine W_opsnil ?_ | refine W_pure TOk (by rfl) (by first | trivial | (simp only [okI, and_true, true_and, and_self] <;> omega) | omega) ?_
  have fin : ∀ {b : Bool}, (b = true ↔ (128 ≤ r ∨ r = 95 ∨ (48 ≤ r ∧ r ≤ 57) ∨ (65 ≤ r ∧ r ≤ 90) ∨ (97 ≤ r ∧ r ≤ 122))) → Value.bool b = Value.bool (wordS r) := fun {b} h => by
    cases b with
    | true => rw [word_t (h.1 rfl)]
    | false => rw [word_f (fun h' => absurd (h.2 h') (by decide))]
  refine W_dec 5 (by rfl) (fun h1 => ?_) (fun h1 => ?_)
  · have h1 := of_decide_eq_true h1
    repeat first | refine W_pure TOk (by rfl) (by first | trivial | (simp only [okI, and_true, true_and, and_self] <;> omega) | omega) ?_ | refine W_on (by rfl) (by rfl) (by rfl) ?_
    refine W_dec 9 (by rfl) (fun h2 => ?_) (fun h2 => ?_)
    · have h2 := of_decide_eq_true h2
      repeat first | refine W_opsnil ?_ | refine W_pure TOk (by rfl) (by first | trivial | (simp only [okI, and_true, true_and, and_self] <;> omega) | omega) ?_ | refine W_off (by rfl) (by rfl) (by rfl) (by rfl) (by rfl) ?_ | refine W_offU (by rfl) (by rfl) (by rfl) (by rfl) ?_
      exact W_retF (vs := [_]) ⟨rfl, trivial⟩ (Ent.refl _) ⟨fin (by simp; omega), rfl⟩
    · have h2 := of_decide_eq_false h2
      repeat first | refine W_pure TOk (by rfl) (by first | trivial | (simp only [okI, and_true, true_and, and_self] <;> omega) | omega) ?_ | refine W_on (by rfl) (by rfl) (by rfl) ?_
      refine W_dec 12 (by rfl) (fun h3 => ?_) (fun h3 => ?_)
      · have h3 := of_decide_eq_true h3
        repeat first | refine W_pure TOk (by rfl) (by first | trivial | (simp only [okI, and_true, true_and, and_self] <;> omega) | omega) ?_ | refine W_on (by rfl) (by rfl) (by rfl) ?_
        refine W_dec 17 (by rfl) (fun h4 => ?_) (fun h4 => ?_)
        · have h4 := of_decide_eq_true h4
          repeat first | refine W_opsnil ?_ | refine W_pure TOk (by rfl) (by first | trivial | (simp only [okI, and_true, true_and, and_self] <;> omega) | omega) ?_ | refine W_off (by rfl) (by rfl) (by rfl) (by rfl) (by rfl) ?_ | refine W_offU (by rfl) (by rfl) (by rfl) (by rfl) ?_
          exact W_retF (vs := [_]) ⟨rfl, trivial⟩ (Ent.refl _) ⟨fin (by simp; omega), rfl⟩
        · have h4 := of_decide_eq_false h4
          repeat first | refine W_pure TOk (by rfl) (by first | trivial | (simp only [okI, and_true, true_and, and_self] <;> omega) | omega) ?_ | refine W_on (by rfl) (by rfl) (by rfl) ?_
          refine W_dec 20 (by rfl) (fun h5 => ?_) (fun h5 => ?_)
          · have h5 := of_decide_eq_true h5
            repeat first | refine W_pure TOk (by rfl) (by first | trivial | (simp only [okI, and_true, true_and, and_self] <;> omega) | omega) ?_ | refine W_on (by rfl) (by rfl) (by rfl) ?_
            refine W_dec 25 (by rfl) (fun h6 => ?_) (fun h6 => ?_)
            · have h6 := of_decide_eq_true h6
              repeat first | refine W_opsnil ?_ | refine W_pure TOk (by rfl) (by first | trivial | (simp only [okI, and_true, true_and, and_self] <;> omega) | omega) ?_ | refine W_off (by rfl) (by rfl) (by rfl) (by rfl) (by rfl) ?_
              exact W_retF (vs := [_]) ⟨rfl, trivial⟩ (Ent.refl _) ⟨fin (by simp; omega), rfl⟩
            · have h6 := of_decide_eq_false h6
              repeat first | refine W_pure TOk (by rfl) (by first | trivial | (simp only [okI, and_true, true_and, and_self] <;> omega) | omega) ?_ | refine W_on (by rfl) (by rfl) (by rfl) ?_
              refine W_dec 29 (by rfl) (fun h7 => ?_) (fun h7 => ?_)
              · have h7 := of_decide_eq_true h7
                repeat first | refine W_opsnil ?_ | refine W_pure TOk (by rfl) (by first | trivial | (simp only [okI, and_true, true_and, and_self] <;> omega) | omega) ?_ | refine W_off (by rfl) (by rfl) (by rfl) (by rfl) (by rfl) ?_
                exact W_retF (vs := [_]) ⟨rfl, trivial⟩ (Ent.refl _) ⟨fin (by simp; omega), rfl⟩
              · have h7 := of_decide_eq_false h7
                repeat first | refine W_opsnil ?_ | refine W_pure TOk (by rfl) (by first | trivial | (simp only [okI, and_true, true_and, and_self] <;> omega) | omega) ?_ | refine W_on (by rfl) (by rfl) (by rfl) ?_
                exact W_retF (vs := [_]) ⟨rfl, trivial⟩ (Ent.refl _) ⟨fin (by simp only [decide_eq_true_eq]; omega), rfl⟩
          · have h5 := of_decide_eq_false h5
            repeat first | refine W_pure TOk (by rfl) (by first | trivial | (simp only [okI, and_true, true_and, and_self] <;> omega) | omega) ?_ | refine W_on (by rfl) (by rfl) (by rfl) ?_ | refine W_off (by rfl) (by rfl) (by rfl) (by rfl) (by rfl) ?_
            refine W_dec 29 (by rfl) (fun h7 => ?_) (fun h7 => ?_)
            · have h7 := of_decide_eq_true h7
              repeat first | refine W_opsnil ?_ | refine W_pure TOk (by rfl) (by first | trivial | (simp only [okI, and_true, true_and, and_self] <;> omega) | omega) ?_ | refine W_off (by rfl) (by rfl) (by rfl) (by rfl) (by rfl) ?_
              exact W_retF (vs := [_]) ⟨rfl, trivial⟩ (Ent.refl _) ⟨fin (by simp; omega), rfl⟩
            · have h7 := of_decide_eq_false h7
              repeat first | refine W_opsnil ?_ | refine W_pure TOk (by rfl) (by first | trivial | (simp only [okI, and_true, true_and, and_self] <;> omega) | omega) ?_ | refine W_on (by rfl) (by rfl) (by rfl) ?_
              exact W_retF (vs := [_]) ⟨rfl, trivial⟩ (Ent.refl _) ⟨fin (by simp only [decide_eq_true_eq]; omega), rfl⟩
      · have h3 := of_decide_eq_false h3
        repeat first | refine W_pure TOk (by rfl) (by first | trivial | (simp only [okI, and_true, true_and, and_self] <;> omega) | omega) ?_ | refine W_on (by rfl) (by rfl) (by rfl) ?_ | refine W_off (by rfl) (by rfl) (by rfl) (by rfl) (by rfl) ?_
        refine W_dec 20 (by rfl) (fun h5 => ?_) (fun h5 => ?_)
        · have h5 := of_decide_eq_true h5
          exact absurd h5 (by omega)
        · have h5 := of_decide_eq_false h5
          repeat first | refine W_pure TOk (by rfl) (by first | trivial | (simp only [okI, and_true, true_and, and_self] <;> omega) | omega) ?_ | refine W_on (by rfl) (by rfl) (by rfl) ?_ | refine W_off (by rfl) (by rfl) (by rfl) (by rfl) (by rfl) ?_
          refine W_dec 29 (by rfl) (fun h7 => ?_) (fun h7 => ?_)
          · have h7 := of_decide_eq_true h7
            exact absurd h7 (by omega)
          · have h7 := of_decide_eq_false h7
            repeat first | refine W_opsnil ?_ | refine W_pure TOk (by rfl) (by first | trivial | (simp only [okI, and_true, true_and, and_self] <;> omega) | omega) ?_ | refine W_on (by rfl) (by rfl) (by rfl) ?_
            exact W_retF (vs := [_]) ⟨rfl, trivial⟩ (Ent.refl _) ⟨fin (by simp only [decide_eq_true_eq]; omega), rfl⟩
  · have h1 := of_decide_eq_false h1
    repeat first | refine W_pure TOk (by rfl) (by first | trivial | (simp only [okI, and_true, true_and, and_self] <;> omega) | omega) ?_ | refine W_on (by rfl) (by rfl) (by rfl) ?_ | refine W_off (by rfl) (by rfl) (by rfl) (by rfl) (by rfl) ?_
    refine W_dec 12 (by rfl) (fun h3 => absurd (of_decide_eq_true h3) (by omega)) (fun h3 => ?_)
    repeat first | refine W_pure TOk (by rfl) (by first | trivial | (simp only [okI, and_true, true_and, and_self] <;> omega) | omega) ?_ | refine W_on (by rfl) (by rfl) (by rfl) ?_ | refine W_off (by rfl) (by rfl) (by rfl) (by rfl) (by rfl) ?_
    refine W_dec 20 (by rfl) (fun h3 => absurd (of_decide_eq_true h3) (by omega)) (fun h3 => ?_)
    repeat first | refine W_pure TOk (by rfl) (by first | trivial | (simp only [okI, and_true, true_and, and_self] <;> omega) | omega) ?_ | refine W_on (by rfl) (by rfl) (by rfl) ?_ | refine W_off (by rfl) (by rfl) (by rfl) (by rfl) (by rfl) ?_
    refine W_dec 29 (by rfl) (fun h3 => absurd (of_decide_eq_true h3) (by omega)) (fun h3 => ?_)
    repeat first | refine W_opsnil ?_ | refine W_pure TOk (by rfl) (by first | trivial | (simp only [okI, and_true, true_and, and_self] <;> omega) | omega) ?_ | refine W_on (by rfl) (by rfl) (by rfl) ?_
    exact W_retF (vs := [_]) ⟨rfl, trivial⟩ (Ent.refl _) ⟨fin (by simp only [decide_eq_true_eq]; omega), rfl⟩
set_option maxHeartbeats 1000000 in
theorem Class_c (w : World) (r : Int) (big : Bool) : Val Try.prog 144 [.int .i32 r, .bool big] w (.int .i64 (clsB big r)) := by
  refine enterF Try.func144 rfl Try.ntmps144 rfl rfl ?_
  repeat first | refine W_seq ?_ | refine W_block ?_ | refine W_region (by rfl) ?_ | refine W_opsnil ?_ | refine W_pure TOk (by rfl) (by first | trivial | (simp only [okI, and_true, true_and, and_self] <;> omega) | omega) ?_
  refine W_dec 8 (by rfl) (fun h1 => ?_) (fun h1 => ?_)
  · have h1 := of_decide_eq_true h1
    repeat first | refine W_seq ?_ | refine W_region (by rfl) ?_ | refine W_opsnil ?_ | refine W_pure TOk (by rfl) (by first | trivial | (simp only [okI, and_true, true_and, and_self] <;> omega) | omega) ?_ | refine W_off (by rfl) (by rfl) (by rfl) (by rfl) (by rfl) ?_ | refine W_cond_t (by rfl) ?_
    exact W_retF (vs := [_]) ⟨rfl, trivial⟩ (Ent.refl _) ⟨by unfold clsB; rw [if_pos (.inl h1)]; rfl, rfl⟩
  · have h1 := of_decide_eq_false h1
    repeat first | refine W_opsnil ?_ | refine W_pure TOk (by rfl) (by first | trivial | (simp only [okI, and_true, true_and, and_self] <;> omega) | omega) ?_ | refine W_on (by rfl) (by rfl) (by rfl) ?_
    refine W_cond_d (by rfl) (fun h2 => ?_) (fun h2 => ?_)
    · repeat first | refine W_seq ?_ | refine W_region (by rfl) ?_ | refine W_opsnil ?_ | refine W_pure TOk (by rfl) (by first | trivial | (simp only [okI, and_true, true_and, and_self] <;> omega) | omega) ?_
      exact W_retF (vs := [_]) ⟨rfl, trivial⟩ (Ent.refl _) ⟨by unfold clsB; rw [if_pos (.inr h2)]; rfl, rfl⟩
    · have hno : ¬ (r = 32 ∨ r = 9) := by omega
      repeat first | refine W_seq ?_ | refine W_region (by rfl) ?_ | refine W_pure TOk (by rfl) (by first | trivial | (simp only [okI, and_true, true_and, and_self] <;> omega) | omega) ?_
      refine W_dec 14 (by rfl) (fun h3 => ?_) (fun h3 => ?_)
      · repeat first | refine W_seq ?_ | refine W_region (by rfl) ?_ | refine W_opsnil ?_ | refine W_pure TOk (by rfl) (by first | trivial | (simp only [okI, and_true, true_and, and_self] <;> omega) | omega) ?_ | refine W_off (by rfl) (by rfl) (by rfl) (by rfl) (by rfl) ?_ | refine W_cond_t (by rfl) ?_
        exact W_retF (vs := [_]) ⟨rfl, trivial⟩ (Ent.refl _) ⟨by unfold clsB; rw [if_neg hno, if_pos (.inl h3)]; rfl, rfl⟩
      · repeat first | refine W_pure TOk (by rfl) (by first | trivial | (simp only [okI, and_true, true_and, and_self] <;> omega) | omega) ?_ | refine W_on (by rfl) (by rfl) (by rfl) ?_
        refine W_callV (by rfl) Try.call203 (by rfl) (fun w1 hw => Word_c w1 r) ?_
        repeat first | refine W_opsnil ?_ | refine W_pure TOk (by rfl) (by first | trivial | (simp only [okI, and_true, true_and, and_self] <;> omega) | omega) ?_
        refine W_cond (by rfl) (fun h4 => ?_) (fun h4 => ?_)
        · repeat first | refine W_seq ?_ | refine W_region (by rfl) ?_ | refine W_opsnil ?_ | refine W_pure TOk (by rfl) (by first | trivial | (simp only [okI, and_true, true_and, and_self] <;> omega) | omega) ?_
          exact W_retF (vs := [_]) ⟨rfl, trivial⟩ (Ent.refl _) ⟨by unfold clsB; rw [if_neg hno, if_pos (.inr h4)]; rfl, rfl⟩
        · repeat first | refine W_seq ?_ | refine W_skip ?_ | refine W_blk ?_ | refine W_region (by rfl) ?_ | refine W_opsnil ?_ | refine W_pure TOk (by rfl) (by first | trivial | (simp only [okI, and_true, true_and, and_self] <;> omega) | omega) ?_
          exact W_retF (vs := [_]) ⟨rfl, trivial⟩ (Ent.refl _) ⟨by unfold clsB; rw [if_neg hno, if_neg (by rw [h3, h4]; decide)]; rfl, rfl⟩
set_option maxHeartbeats 1000000 in
theorem RClass_c (w : World) (r : Int) (big : Bool) : Val Try.prog 146 [.int .i32 r, .bool big] w (.int .i64 (clsB big r)) := by
  refine enterF Try.func146 rfl Try.ntmps146 rfl rfl ?_
  repeat first | refine W_seq ?_ | refine W_region (by rfl) ?_ | refine W_opsnil ?_ | refine W_pure TOk (by rfl) (by first | trivial | (simp only [okI, and_true, true_and, and_self] <;> omega) | omega) ?_
  refine W_dec 7 (by rfl) (fun h1 => ?_) (fun h1 => ?_)
  · have h1 := of_decide_eq_true h1
    repeat first | refine W_seq ?_ | refine W_region (by rfl) ?_ | refine W_opsnil ?_ | refine W_pure TOk (by rfl) (by first | trivial | (simp only [okI, and_true, true_and, and_self] <;> omega) | omega) ?_ | refine W_off (by rfl) (by rfl) (by rfl) (by rfl) (by rfl) ?_ | refine W_cond_t (by rfl) ?_
    exact W_retF (vs := [_]) ⟨rfl, trivial⟩ (Ent.refl _) ⟨by unfold clsB; rw [if_pos (.inl h1)]; rfl, rfl⟩
  · have h1 := of_decide_eq_false h1
    repeat first | refine W_opsnil ?_ | refine W_pure TOk (by rfl) (by first | trivial | (simp only [okI, and_true, true_and, and_self] <;> omega) | omega) ?_ | refine W_on (by rfl) (by rfl) (by rfl) ?_
    refine W_cond_d (by rfl) (fun h2 => ?_) (fun h2 => ?_)
    · repeat first | refine W_seq ?_ | refine W_region (by rfl) ?_ | refine W_opsnil ?_ | refine W_pure TOk (by rfl) (by first | trivial | (simp only [okI, and_true, true_and, and_self] <;> omega) | omega) ?_
      exact W_retF (vs := [_]) ⟨rfl, trivial⟩ (Ent.refl _) ⟨by unfold clsB; rw [if_pos (.inr h2)]; rfl, rfl⟩
    · have hno : ¬ (r = 32 ∨ r = 9) := by omega
      repeat first | refine W_seq ?_ | refine W_skip ?_ | refine W_region (by rfl) ?_ | refine W_pure TOk (by rfl) (by first | trivial | (simp only [okI, and_true, true_and, and_self] <;> omega) | omega) ?_
      refine W_dec 12 (by rfl) (fun h3 => ?_) (fun h3 => ?_)
      · repeat first | refine W_seq ?_ | refine W_region (by rfl) ?_ | refine W_opsnil ?_ | refine W_pure TOk (by rfl) (by first | trivial | (simp only [okI, and_true, true_and, and_self] <;> omega) | omega) ?_ | refine W_off (by rfl) (by rfl) (by rfl) (by rfl) (by rfl) ?_ | refine W_cond_t (by rfl) ?_
        exact W_retF (vs := [_]) ⟨rfl, trivial⟩ (Ent.refl _) ⟨by unfold clsB; rw [if_neg hno, if_pos (.inl h3)]; rfl, rfl⟩
      · repeat first | refine W_pure TOk (by rfl) (by first | trivial | (simp only [okI, and_true, true_and, and_self] <;> omega) | omega) ?_ | refine W_on (by rfl) (by rfl) (by rfl) ?_
        refine W_callV (by rfl) Try.call204 (by rfl) (fun w1 hw => RWord_c w1 r) ?_
        repeat first | refine W_opsnil ?_ | refine W_pure TOk (by rfl) (by first | trivial | (simp only [okI, and_true, true_and, and_self] <;> omega) | omega) ?_
        refine W_cond (by rfl) (fun h4 => ?_) (fun h4 => ?_)
        · repeat first | refine W_seq ?_ | refine W_region (by rfl) ?_ | refine W_opsnil ?_ | refine W_pure TOk (by rfl) (by first | trivial | (simp only [okI, and_true, true_and, and_self] <;> omega) | omega) ?_
          exact W_retF (vs := [_]) ⟨rfl, trivial⟩ (Ent.refl _) ⟨by unfold clsB; rw [if_neg hno, if_pos (.inr h4)]; rfl, rfl⟩
        · repeat first | refine W_seq ?_ | refine W_skip ?_ | refine W_region (by rfl) ?_ | refine W_opsnil ?_ | refine W_pure TOk (by rfl) (by first | trivial | (simp only [okI, and_true, true_and, and_self] <;> omega) | omega) ?_
          exact W_retF (vs := [_]) ⟨rfl, trivial⟩ (Ent.refl _) ⟨by unfold clsB; rw [if_neg hno, if_neg (by rw [h3, h4]; decide)]; rfl, rfl⟩
/-! ### Cursor's places -/
theorem clp_a {n : Nat} {l : Int} (h : 0 < n) : minI (maxI l 0) ((n : Int) - 1) = (clp n l : Nat) := by
  unfold minI maxI clp; split <;> split <;> omega
theorem clp_b {n : Nat} {l : Int} (h : 0 < n) : maxI 0 (minI l ((n : Int) - 1)) = (clp n l : Nat) := by
  unfold minI maxI clp; split <;> split <;> omega
theorem clp_c {n : Nat} {l : Int} : maxI (minI l ((n : Int) - 1)) 0 = (clp n l : Nat) := by
  unfold minI maxI clp; split <;> split <;> omega
theorem clp_d {n : Nat} {l : Int} : maxI 0 (minI l ((n : Int) - 1)) = (clp n l : Nat) := by
  unfold minI maxI clp; split <;> split <;> omega
theorem clip_nil {L : List (List Int)} (h : L.length = 0) (l c : Int) : clipS L l c = (0, 0) := by
  have : L = [] := List.eq_nil_of_length_eq_zero h
  subst this
  simp [clipS, clp, rowN]
set_option maxHeartbeats 1000000 in
theorem Clip_c (w : World) (A : Option Addr) (c0 : Nat) (L : List (List Int)) (hl : RowsAt w A L) (hb : L.length + tot L ≤ 1152921504606846976) (l c : Int) :
    Val Try.prog 123 [.slice A L.length c0, pos l c] w (pos (clipS L l c).1 (clipS L l c).2) := by
  refine enterF Try.func123 rfl Try.ntmps123 rfl rfl ?_
  repeat first | refine W_seq ?_ | refine W_region (by rfl) ?_
  refine W_box (cs := [_, _]) (by rfl) (by rfl) (by rfl) (fun b3 => ?_)
  refine W_alloc (cs := [_, _]) TOk (by rfl) (by rfl) (fun b4 => ?_)
  repeat first | refine W_seq ?_ | refine W_region (by rfl) ?_ | refine W_opsnil ?_ | refine W_pure TOk (by rfl) (by first | trivial | (simp only [okI, and_true, true_and, and_self] <;> omega) | omega) ?_
  refine W_cond_d (by rfl) (fun hz => ?_) (fun hz => ?_)
  · repeat first | refine W_seq ?_ | refine W_region (by rfl) ?_ | refine W_opsnil ?_ | refine W_pure TOk (by rfl) (by first | trivial | (simp only [okI, and_true, true_and, and_self] <;> omega) | omega) ?_ | (refine W_store_box 0 TOk (by rfl) (by rfl) (by rfl) (by rfl) (by rfl) (by rfl) ?_; dsimp only [setL, putL, vcells])
    rw [clip_nil (by omega)]
    exact W_retF (vs := [_]) ⟨rv_box 0 TOk rfl rfl rfl, trivial⟩ (Ent.nil _) ⟨rfl, rfl⟩
  · have hn : 0 < L.length := by omega
    have h1 := clp_lt (c := l) hn
    repeat first | refine W_seq ?_ | refine W_skip ?_ | refine W_region (by rfl) ?_ | refine W_opsnil ?_ | refine W_pure TOk (by rfl) (by first | trivial | (simp only [okI, and_true, true_and, and_self] <;> omega) | omega) ?_ | refine W_load_box 1 TOk (by rfl) (by rfl) (by rfl) (by rfl) (by rfl) ?_ | (refine W_store_box 1 TOk (by rfl) (by rfl) (by rfl) (by rfl) (by rfl) (by rfl) ?_; dsimp only [setL, putL, vcells])
    rw [clp_a hn]
    obtain ⟨B, cB, hcB, hB_, hvs⟩ := hl.row (i := ((clp L.length l : Nat) : Int)) (by omega) (by omega)
    have hrl := row_len_le L (i := ((clp L.length l : Nat) : Int)) (by omega) (by omega)
    rw [rowN_rw] at hvs hrl
    refine W_draw (fun w1 => St _ _ w1 _) [12] [(0, 0), (1, 0), (2, 0), (3, 0), (4, 0), (5, 0), (6, 0), (7, 0), (8, 0), (9, 0), (10, 0), (11, 0), (12, 2)] (by kernel_rfl) (fun _ h => h) (by rfl) (by kernel_rfl) (fun hB => ?_)
    repeat first | refine D_pure TOk (by kernel_rfl) hB (by rfl) (by rfl) (by first | trivial | (simp only [okI, and_true, true_and, and_self] <;> omega) | omega) (fun hB => ?_) | refine D_load_box 1 TOk (by kernel_rfl) hB (by rfl) (by rfl) (by rfl) (by rfl) (by rfl) (fun _ h => h) (by rfl) (by rfl) (fun hB => ?_)
    refine D_index TOk (by kernel_rfl) hB (by rfl) (by rfl) (fun _ h => h) (fun _ h => h) (by rfl) (by rfl) (by rfl) (by first | exact es48 | exact es22 | exact es136 | exact es150 | exact es223 | exact es29 | exact es132 | exact es207) (by omega) (by omega) (fun w1 hw => (hl.below hw.below).isSome (by omega)) (fun hB => ?_)
    refine D_load TOk (by kernel_rfl) hB (by rfl) (by rfl) (fun _ h => h) (fun _ h => h) (by rfl) (by rfl) (by rfl) (fun w1 hw => cells_elem1 hvs hw.below) (fun hB => ?_)
    repeat first | refine D_pure TOk (by kernel_rfl) hB (by rfl) (by rfl) (by first | trivial | (simp only [okI, and_true, true_and, and_self] <;> omega) | omega) (fun hB => ?_)
    refine D_last hB (by rfl) (fun hB => ?_)
    rw [clp_c]
    repeat first | refine W_opsnil ?_ | (refine W_store_box 1 TOk (by rfl) (by rfl) (by rfl) (by rfl) (by rfl) (by rfl) ?_; dsimp only [setL, putL, vcells])
    repeat first | refine D_done hB ?_
    repeat first | refine W_seq ?_ | refine W_region (by rfl) ?_ | refine W_opsnil ?_ | refine W_load_boxN 1 TOk (by rfl) (by rfl) (by rfl) (by rfl) (by rfl) ?_ | (refine W_store_box 0 TOk (by rfl) (by rfl) (by rfl) (by rfl) (by rfl) (by rfl) ?_; dsimp only [setL, putL, vcells])
    exact W_retF (vs := [_]) ⟨rv_box 0 TOk rfl rfl rfl, trivial⟩ (Ent.nil _) ⟨rfl, rfl⟩
set_option maxHeartbeats 1000000 in
theorem RClip_c (w : World) (A : Option Addr) (c0 : Nat) (L : List (List Int)) (hl : RowsAt w A L) (hb : L.length + tot L ≤ 1152921504606846976) (l c : Int) :
    Val Try.prog 57 [.slice A L.length c0, pos l c] w (pos (clipS L l c).1 (clipS L l c).2) := by
  refine enterF Try.func57 rfl Try.ntmps57 rfl rfl ?_
  repeat first | refine W_seq ?_ | refine W_region (by rfl) ?_
  refine W_box (cs := [_, _]) (by rfl) (by rfl) (by rfl) (fun b3 => ?_)
  refine W_alloc (cs := [_, _]) TOk (by rfl) (by rfl) (fun b4 => ?_)
  repeat first | refine W_seq ?_ | refine W_region (by rfl) ?_ | refine W_opsnil ?_ | refine W_pure TOk (by rfl) (by first | trivial | (simp only [okI, and_true, true_and, and_self] <;> omega) | omega) ?_
  refine W_cond_d (by rfl) (fun hz => ?_) (fun hz => ?_)
  · repeat first | refine W_seq ?_ | refine W_region (by rfl) ?_ | refine W_opsnil ?_ | refine W_pure TOk (by rfl) (by first | trivial | (simp only [okI, and_true, true_and, and_self] <;> omega) | omega) ?_ | (refine W_store_box 0 TOk (by rfl) (by rfl) (by rfl) (by rfl) (by rfl) (by rfl) ?_; dsimp only [setL, putL, vcells])
    rw [clip_nil (by omega)]
    exact W_retF (vs := [_]) ⟨rv_box 0 TOk rfl rfl rfl, trivial⟩ (Ent.nil _) ⟨rfl, rfl⟩
  · have hn : 0 < L.length := by omega
    have h1 := clp_lt (c := l) hn
    repeat first | refine W_seq ?_ | refine W_skip ?_ | refine W_region (by rfl) ?_ | refine W_opsnil ?_ | refine W_pure TOk (by rfl) (by first | trivial | (simp only [okI, and_true, true_and, and_self] <;> omega) | omega) ?_ | refine W_load_box 1 TOk (by rfl) (by rfl) (by rfl) (by rfl) (by rfl) ?_ | (refine W_store_box 1 TOk (by rfl) (by rfl) (by rfl) (by rfl) (by rfl) (by rfl) ?_; dsimp only [setL, putL, vcells])
    rw [clp_b hn]
    obtain ⟨B, cB, hcB, hB_, hvs⟩ := hl.row (i := ((clp L.length l : Nat) : Int)) (by omega) (by omega)
    have hrl := row_len_le L (i := ((clp L.length l : Nat) : Int)) (by omega) (by omega)
    rw [rowN_rw] at hvs hrl
    refine W_draw (fun w1 => St _ _ w1 _) [12] [(0, 0), (1, 0), (2, 0), (3, 0), (4, 0), (5, 0), (6, 0), (7, 0), (8, 0), (9, 0), (10, 0), (11, 0), (12, 2)] (by kernel_rfl) (fun _ h => h) (by rfl) (by kernel_rfl) (fun hB => ?_)
    repeat first | refine D_pure TOk (by kernel_rfl) hB (by rfl) (by rfl) (by first | trivial | (simp only [okI, and_true, true_and, and_self] <;> omega) | omega) (fun hB => ?_) | refine D_load_box 1 TOk (by kernel_rfl) hB (by rfl) (by rfl) (by rfl) (by rfl) (by rfl) (fun _ h => h) (by rfl) (by rfl) (fun hB => ?_)
    refine D_index TOk (by kernel_rfl) hB (by rfl) (by rfl) (fun _ h => h) (fun _ h => h) (by rfl) (by rfl) (by rfl) (by first | exact es48 | exact es22 | exact es136 | exact es150 | exact es223 | exact es29 | exact es132 | exact es207) (by omega) (by omega) (fun w1 hw => (hl.below hw.below).isSome (by omega)) (fun hB => ?_)
    refine D_load TOk (by kernel_rfl) hB (by rfl) (by rfl) (fun _ h => h) (fun _ h => h) (by rfl) (by rfl) (by rfl) (fun w1 hw => cells_elem1 hvs hw.below) (fun hB => ?_)
    repeat first | refine D_pure TOk (by kernel_rfl) hB (by rfl) (by rfl) (by first | trivial | (simp only [okI, and_true, true_and, and_self] <;> omega) | omega) (fun hB => ?_)
    refine D_last hB (by rfl) (fun hB => ?_)
    rw [clp_d]
    repeat first | refine W_opsnil ?_ | (refine W_store_box 1 TOk (by rfl) (by rfl) (by rfl) (by rfl) (by rfl) (by rfl) ?_; dsimp only [setL, putL, vcells])
    repeat first | refine D_done hB ?_
    repeat first | refine W_seq ?_ | refine W_region (by rfl) ?_ | refine W_opsnil ?_ | refine W_load_boxN 1 TOk (by rfl) (by rfl) (by rfl) (by rfl) (by rfl) ?_ | (refine W_store_box 0 TOk (by rfl) (by rfl) (by rfl) (by rfl) (by rfl) (by rfl) ?_; dsimp only [setL, putL, vcells])
    exact W_retF (vs := [_]) ⟨rv_box 0 TOk rfl rfl rfl, trivial⟩ (Ent.nil _) ⟨rfl, rfl⟩
/-! ### Rows cloned -/
set_option maxHeartbeats 1000000 in
theorem Clone_c (w : World) (A : Option Addr) (c : Nat) (xs : List Int) (hx : Cells w A (i32s xs)) (hb : xs.length ≤ 1099511627776) : Fresh Try.prog 115 [.slice A xs.length c] w (RowR xs) := by
  refine enterF Try.func115 rfl Try.ntmps115 rfl rfl ?_
  repeat first | refine W_seq ?_ | refine W_region (by rfl) ?_ | refine W_opsnil ?_ | refine W_pure TOk (by rfl) (by first | trivial | (simp only [okI, and_true, true_and, and_self] <;> omega) | omega) ?_
  refine W_cond (by rfl) (fun h => ?_) (fun h => ?_)
  · have e : xs = [] := by
      cases A with
      | some a => cases h
      | none => simpa [i32s] using hx.len_none
    subst e
    repeat first | refine W_seq ?_ | refine W_region (by rfl) ?_ | refine W_opsnil ?_ | refine W_pure TOk (by rfl) (by first | trivial | (simp only [okI, and_true, true_and, and_self] <;> omega) | omega) ?_
    exact W_retF (vs := [_]) ⟨rfl, trivial⟩ (Ent.own_zero 21 1 none []) ⟨none, 0, rfl, rfl⟩
  · repeat first | refine W_seq ?_ | refine W_skip ?_ | refine W_region (by rfl) ?_
    refine W_lit0 TOk (by rfl) (by first | exact sl48 | exact sl22 | exact sl136 | exact sl150 | exact sl223 | exact sl29 | exact sl132 | exact sl207) (fun g => ?_)
    repeat first | refine W_pure TOk (by rfl) (by first | trivial | (simp only [okI, and_true, true_and, and_self] <;> omega) | omega) ?_
    refine W_append_zero TOk (by rfl) (by rfl) (by rfl) (by first | exact sl48 | exact sl22 | exact sl136 | exact sl150 | exact sl223 | exact sl29 | exact sl132 | exact sl207) (fun w1 hw => hx.below hw.below) (by simp [i32s_length, i64s_length]) (by unfold maxLen; omega) (by omega) (fun A2 c2 => ?_)
    repeat first | refine W_opsnil ?_ | refine W_pure TOk (by rfl) (by first | trivial | (simp only [okI, and_true, true_and, and_self] <;> omega) | omega) ?_
    exact W_retF (vs := [_]) ⟨rfl, trivial⟩ (Ent.refl _) ⟨A2, c2, rfl, rfl⟩
theorem putL_at {vs r : List Value} {x v : Value} : putL (vs ++ x :: r) vs.length [v] = vs ++ v :: r := by
  induction vs with
  | nil => simp [putL, putL_nil]
  | cons a vs ih => simp only [List.cons_append, List.length_cons, putL, ih]
theorem putL_at' {vs r : List Value} {x v : Value} {k : Nat} (h : vs.length = k) : putL (vs ++ x :: r) k [v] = vs ++ v :: r := by
  subst h; exact putL_at
theorem nil_flat (n : Nat) : (List.replicate n (vcells (Value.slice none 0 0))).flatten = List.replicate n (Value.slice none 0 0) := by
  induction n with
  | zero => rfl
  | succ n ih => rw [List.replicate_succ, List.flatten_cons, ih, List.replicate_succ]; rfl
set_option maxHeartbeats 1000000 in
theorem Lines_c (w : World) (A : Option Addr) (c : Nat) (L : List (List Int)) (hl : RowsAt w A L) (hb : L.length + tot L ≤ 1099511627776) : Fresh Try.prog 127 [.slice A L.length c] w (RowsR L) := by
  refine enterF Try.func127 rfl Try.ntmps127 rfl rfl ?_
  repeat first | refine W_seq ?_ | refine W_region (by rfl) ?_ | refine W_opsnil ?_ | refine W_pure TOk (by rfl) (by first | trivial | (simp only [okI, and_true, true_and, and_self] <;> omega) | omega) ?_
  refine W_make TOk (by rfl) (by rfl) (by rfl) sl22 (by omega) (by omega) (by omega) (by omega) (fun g => ?_)
  rw [nil_flat]
  simp only [Int.toNat_natCast]
  repeat first | refine W_seq ?_ | refine W_block ?_ | refine W_region (by rfl) ?_ | refine W_opsnil ?_ | refine W_pure TOk (by rfl) (by first | trivial | (simp only [okI, and_true, true_and, and_self] <;> omega) | omega) ?_
  refine W_loop (ι := Nat × List Value) (fun q => [(0, .slice A L.length c), (3, .slice (some ⟨g, 0, none⟩) L.length L.length), (9, .int .i64 (L.length : Nat)), (10, .int .i64 (q.1 : Nat))]) (fun q => [own 48 1 (some ⟨g, 0, none⟩) L.length L.length (q.2 ++ List.replicate (L.length - q.1) (.slice none 0 0)), rowsA q.2 (L.take q.1)])
    (fun q => q.1 ≤ L.length ∧ q.2.length = q.1) (fun q => L.length - q.1) (0, []) ⟨by omega, rfl⟩ ⟨rfl, rfl, rfl, rfl, trivial⟩ ((Ent.rowsA_nil _).trans (Ent.swap _ _ _)) ?_
  rintro ⟨k, vs⟩ ⟨hk, hvl⟩
  dsimp only at hk hvl ⊢
  repeat first | refine W_seq ?_ | refine W_region (by rfl) ?_ | refine W_opsnil ?_ | refine W_pure TOk (by rfl) (by first | trivial | (simp only [okI, and_true, true_and, and_self] <;> omega) | omega) ?_
  refine W_cond_d (by rfl) (fun hlt => ?_) (fun hge => ?_)
  · obtain ⟨B, cB, hcB, hB_, hvs⟩ := hl.row (i := (k : Int)) (by omega) hlt
    have hrl := row_len_le L (i := (k : Int)) (by omega) hlt
    have hg := rw_get (xss := L) (i := (k : Int)) (by omega) hlt
    rw [show ((k : Int)).toNat = k by omega] at hg
    repeat first | refine W_seq ?_ | refine W_skip ?_ | refine W_block ?_ | refine W_region (by rfl) ?_ | refine W_opsnil ?_ | refine W_pure TOk (by rfl) (by first | trivial | (simp only [okI, and_true, true_and, and_self] <;> omega) | omega) ?_
    refine W_index TOk (by rfl) (by rfl) (by rfl) (by first | exact es48 | exact es22 | exact es136 | exact es150 | exact es223 | exact es29 | exact es132 | exact es207) (by omega) (by omega) (fun w1 hw => (hl.below hw.below).isSome (by omega)) ?_
    refine W_load TOk (by rfl) (by rfl) (by rfl) (fun w1 hw => cells_elem1 hvs hw.below) ?_
    refine W_call _ (by rfl) Try.call115 (by rfl) (fun w1 hw => Clone_c w1 B cB (rw_ L k) (hB_.below hw.below) (by omega)) ?_; rintro _ _ ⟨A3, c3, rfl, rfl⟩; dsimp only [List.cons_append, List.nil_append]
    refine W_index TOk (by rfl) (by rfl) (by rfl) (by first | exact es48 | exact es22 | exact es136 | exact es150 | exact es223 | exact es29 | exact es132 | exact es207) (by omega) (by omega) (fun w1 hw => (hw.hp.cells 1 rfl).isSome (by simp; omega)) ?_
    refine W_store_own 1 TOk (by rfl) ptr_at (by rfl) (by rfl) (by rfl) (by simp only [vcells, List.length_cons, List.length_nil]; omega) (by omega) (by rfl) ?_
    have hrep : List.replicate (L.length - k) (Value.slice none 0 0) = .slice none 0 0 :: List.replicate (L.length - (k + 1)) (.slice none 0 0) := by
      rw [← List.replicate_succ]; congr 1; omega
    simp only [Int.toNat_natCast, Nat.mul_one, vcells, setL]
    rw [hrep]
    rw [putL_at' hvl]
    repeat first | refine W_blk ?_ | refine W_region (by rfl) ?_ | refine W_opsnil ?_ | refine W_pure TOk (by rfl) (by first | trivial | (simp only [okI, and_true, true_and, and_self] <;> omega) | omega) ?_
    refine W_inv (k + 1, vs ++ [.slice A3 (rw_ L k).length c3]) ⟨by dsimp only; omega, by dsimp only; simp [hvl]⟩ (by dsimp only; omega) ⟨rfl, rfl, rfl, rfl, trivial⟩ ?_
    dsimp only
    rw [take_snoc hg]
    refine (Ent.push_row (vs := vs) (xss := L.take k) (by rw [hvl, List.length_take]; omega) A3 c3 (rw_ L k) _ []).trans ?_
    rw [List.append_assoc]
    exact Ent.refl _
  · have e : k = L.length := by omega
    subst e
    repeat first | refine W_seq ?_ | refine W_exit (by rfl) ?_ | refine W_region (by rfl) ?_ | refine W_opsnil ?_ | refine W_pure TOk (by rfl) (by first | trivial | (simp only [okI, and_true, true_and, and_self] <;> omega) | omega) ?_
    rw [Nat.sub_self, List.replicate_zero, List.append_nil, List.take_length]
    exact W_retF (vs := [_]) ⟨rfl, trivial⟩ (Ent.refl _) ⟨_, _, vs, rfl, hvl, rfl⟩
/-! ### The first rune that is not blank -/
theorem cls_blk (r : Int) : clsB false r = 0 ↔ blk r = true := by unfold blk; simp
set_option maxHeartbeats 1000000 in
theorem First_c (w : World) (A : Option Addr) (c : Nat) (xs : List Int) (hx : Cells w A (i32s xs)) (hb : xs.length ≤ 1152921504606846976) : Val Try.prog 124 [.slice A xs.length c] w (.int .i64 (firstS xs : Nat)) := by
  refine enterF Try.func124 rfl Try.ntmps124 rfl rfl ?_
  repeat first | refine W_seq ?_ | refine W_block ?_ | refine W_region (by rfl) ?_ | refine W_opsnil ?_ | refine W_pure TOk (by rfl) (by first | trivial | (simp only [okI, and_true, true_and, and_self] <;> omega) | omega) ?_
  refine W_loop (ι := Nat) (fun i => [(0, .slice A xs.length c), (3, .int .i64 (i : Nat))]) (fun _ => []) (fun i => i ≤ xs.length ∧ ∀ j v, j < i → xs[j]? = some v → blk v = true) (fun i => xs.length - i) 0
    ⟨by omega, fun j v h => by omega⟩ ⟨rfl, rfl, trivial⟩ (Ent.refl _) ?_
  rintro i ⟨hi, hbl⟩
  repeat first | refine W_seq ?_ | refine W_region (by rfl) ?_ | refine W_opsnil ?_ | refine W_pure TOk (by rfl) (by first | trivial | (simp only [okI, and_true, true_and, and_self] <;> omega) | omega) ?_
  refine W_cond_d (by rfl) (fun hlt => ?_) (fun hge => ?_)
  · have hrd := rd_get (xs := xs) (i := (i : Int)) (by omega) hlt
    rw [show ((i : Int)).toNat = i by omega] at hrd
    repeat first | refine W_seq ?_ | refine W_skip ?_ | refine W_block ?_ | refine W_region (by rfl) ?_ | refine W_pure TOk (by rfl) (by first | trivial | (simp only [okI, and_true, true_and, and_self] <;> omega) | omega) ?_
    refine W_index TOk (by rfl) (by rfl) (by rfl) (by first | exact es48 | exact es22 | exact es136 | exact es150 | exact es223 | exact es29 | exact es132 | exact es207) (by omega) (by omega) (fun w1 hw => (hx.below hw.below).isSome (by rw [i32s_length]; omega)) ?_
    refine W_load TOk (by rfl) (by rfl) (by rfl) (fun w1 hw => (hx.below hw.below).elem1 (i32s_get (by omega) hlt)) ?_
    refine W_callV (by rfl) Try.call146 (by rfl) (fun w1 hw => RClass_c w1 (rd xs i) false) ?_
    repeat first | refine W_opsnil ?_ | refine W_pure TOk (by rfl) (by first | trivial | (simp only [okI, and_true, true_and, and_self] <;> omega) | omega) ?_
    refine W_cond_nd (by rfl) (fun hne => ?_) (fun he => ?_)
    · repeat first | refine W_seq ?_ | refine W_region (by rfl) ?_ | refine W_opsnil ?_ | refine W_pure TOk (by rfl) (by first | trivial | (simp only [okI, and_true, true_and, and_self] <;> omega) | omega) ?_
      have hl : lead xs = i := lead_eq hbl (fun v hv => by rw [hrd] at hv; rw [← Option.some.inj hv]; rw [Bool.eq_false_iff]; exact fun h => hne ((cls_blk _).2 h)) (by omega)
      refine W_retF (vs := [_]) ⟨rfl, trivial⟩ (Ent.refl _) ⟨?_, rfl⟩
      unfold firstS
      rw [hl, if_pos (by omega)]
      rfl
    · repeat first | refine W_skip ?_ | refine W_blk ?_ | refine W_region (by rfl) ?_ | refine W_opsnil ?_ | refine W_pure TOk (by rfl) (by first | trivial | (simp only [okI, and_true, true_and, and_self] <;> omega) | omega) ?_
      refine W_inv (i + 1) ⟨by omega, fun j v hj hv => ?_⟩ (by omega) ⟨rfl, rfl, trivial⟩ (Ent.refl _)
      rcases Nat.lt_or_ge j i with h | h
      · exact hbl j v h hv
      · have : j = i := by omega
        subst this
        rw [hrd] at hv
        rw [← Option.some.inj hv]
        exact (cls_blk _).1 he
  · have hl : lead xs = xs.length := lead_eq (fun j v hj hv => hbl j v (by omega) hv) (fun v hv => by simp at hv) (Nat.le_refl _)
    repeat first | refine W_seq ?_ | refine W_exit (by rfl) ?_ | refine W_region (by rfl) ?_ | refine W_opsnil ?_ | refine W_pure TOk (by rfl) (by first | trivial | (simp only [okI, and_true, true_and, and_self] <;> omega) | omega) ?_
    refine W_retF (vs := [_]) ⟨rfl, trivial⟩ (Ent.refl _) ⟨?_, rfl⟩
    unfold firstS
    rw [hl, if_neg (by omega)]
    show Value.int _ _ = Value.int _ _
    congr 1
    unfold maxI
    split <;> omega
end Go.Proofs.Ytdfibmbedjpcgaa
