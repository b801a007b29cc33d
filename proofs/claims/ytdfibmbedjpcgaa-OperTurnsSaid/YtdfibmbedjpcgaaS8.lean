/- Chapter 4's examples; the document's New; offsets and places turned; many lines. -/
import Derived.Test.YtdfibmbedjpcgaaS7
set_option linter.unusedVariables false
set_option linter.unusedSimpArgs false
namespace Go.Proofs.Ytdfibmbedjpcgaa
open Go Go.RowKit Eng Ls
attribute [local irreducible] Eng.W

theorem rows_two {w : World} {A B0 B1 : Option Addr} {c0 c1 : Nat} {r0 r1 : List Int} (h : Cells w A [.slice B0 r0.length c0, .slice B1 r1.length c1]) (h0 : Cells w B0 (i32s r0)) (h1 : Cells w B1 (i32s r1)) (k0 : r0.length ≤ c0) (k1 : r1.length ≤ c1) : RowsAt w A [r0, r1] := by
  refine ⟨_, h, rfl, fun i xs hi => ?_⟩
  match i, hi with
  | 0, hi =>
    have : xs = r0 := by simpa using hi.symm
    subst this
    exact ⟨B0, c0, rfl, k0, h0⟩
  | 1, hi =>
    have : xs = r1 := by simpa using hi.symm
    subst this
    exact ⟨B1, c1, rfl, k1, h1⟩
  | i + 2, hi => simp at hi
set_option maxHeartbeats 2000000 in
theorem awake_c (w : World) : Val Try.prog 44 [] w (.bool true) := by
  refine enterF Try.func44 rfl Try.ntmps44 rfl rfl ?_
  repeat first
    | refine W_seq ?_
    | refine W_skip ?_
    | refine W_block ?_
    | refine W_blk ?_
    | refine W_exit (by rfl) ?_
    | refine W_region (by rfl) ?_
    | refine W_opsnil ?_
    | refine W_pure TOk (by rfl) (by first | trivial | (simp only [okI, and_true, true_and, and_self] <;> omega)) ?_
    | refine W_on (by rfl) (by rfl) (by rfl) ?_
    | refine W_off (by rfl) (by rfl) (by rfl) (by rfl) (by rfl) ?_
    | refine W_offU (by rfl) (by rfl) (by rfl) (by rfl) ?_
    | refine W_cond_t (by rfl) ?_
    | refine W_cond_f (by rfl) ?_
  refine W_lit TOk (cs := [_, _]) (by rfl) sl48 (by rfl) (by rfl) (by rfl) (by rfl) (fun g1 => ?_)
  refine W_lit TOk (cs := [_]) (by rfl) (by first | exact sl48 | exact sl22 | exact sl136 | exact sl150 | exact sl223 | exact sl29 | exact sl132 | exact sl207) (by rfl) (by rfl) (by rfl) (by rfl) (fun g2 => ?_)
  refine W_lit TOk (cs := [_, _]) (by rfl) sl22 (by rfl) (by rfl) (by rfl) (by rfl) (fun g3 => ?_)
  refine W_call _ (by rfl) Try.call38 (by rfl) (fun w1 hw => New_c w1 _ 2 [[97, 98], [99]] (rows_two (hw.hp.cells 0 rfl) (hw.hp.cells 2 rfl) (hw.hp.cells 1 rfl) (by decide) (by decide)) (by decide)) ?_
  intro v0 M0 hj0
  rcases hj0 with ⟨hp, b, rfl, rfl⟩ | ⟨hp, rfl, rfl⟩
  · dsimp only [List.cons_append, List.nil_append]
    refine W_ent (M := [textA b [97, 98, 10, 99] 4]) (Ent.cons _ (Ent.nil _)) ?_
    repeat first
      | refine W_seq ?_
      | refine W_skip ?_
      | refine W_block ?_
      | refine W_blk ?_
      | refine W_exit (by rfl) ?_
      | refine W_region (by rfl) ?_
      | refine W_opsnil ?_
      | refine W_pure TOk (by rfl) (by first | trivial | (simp only [okI, and_true, true_and, and_self] <;> omega)) ?_
      | refine W_on (by rfl) (by rfl) (by rfl) ?_
      | refine W_off (by rfl) (by rfl) (by rfl) (by rfl) (by rfl) ?_
      | refine W_offU (by rfl) (by rfl) (by rfl) (by rfl) ?_
      | refine W_cond_t (by rfl) ?_
      | refine W_cond_f (by rfl) ?_
    refine W_callV (by rfl) Try.call42 (by rfl) (fun w1 hw => Offset_c w1 b [97, 98, 10, 99] 1 0 (textAt 0 hw.hp rfl)) ?_
    rw [show offS [97, 98, 10, 99] 1 0 = (3, 0) by decide]
    repeat first
      | refine W_seq ?_
      | refine W_skip ?_
      | refine W_block ?_
      | refine W_blk ?_
      | refine W_exit (by rfl) ?_
      | refine W_region (by rfl) ?_
      | refine W_opsnil ?_
      | refine W_pure TOk (by rfl) (by first | trivial | (simp only [okI, and_true, true_and, and_self] <;> omega)) ?_
      | refine W_on (by rfl) (by rfl) (by rfl) ?_
      | refine W_off (by rfl) (by rfl) (by rfl) (by rfl) (by rfl) ?_
      | refine W_offU (by rfl) (by rfl) (by rfl) (by rfl) ?_
      | refine W_cond_t (by rfl) ?_
      | refine W_cond_f (by rfl) ?_
    refine W_callV (by rfl) Try.call41 (by rfl) (fun w1 hw => Place_c w1 b [97, 98, 10, 99] 2 (textAt 0 hw.hp rfl)) ?_
    rw [show placeS [97, 98, 10, 99] 2 = ((0, 2), 0) by decide]
    repeat first
      | refine W_seq ?_
      | refine W_skip ?_
      | refine W_block ?_
      | refine W_blk ?_
      | refine W_exit (by rfl) ?_
      | refine W_region (by rfl) ?_
      | refine W_opsnil ?_
      | refine W_pure TOk (by rfl) (by first | trivial | (simp only [okI, and_true, true_and, and_self] <;> omega)) ?_
      | refine W_on (by rfl) (by rfl) (by rfl) ?_
      | refine W_off (by rfl) (by rfl) (by rfl) (by rfl) (by rfl) ?_
      | refine W_offU (by rfl) (by rfl) (by rfl) (by rfl) ?_
      | refine W_cond_t (by rfl) ?_
      | refine W_cond_f (by rfl) ?_
    refine W_alloc (cs := [_, _]) TOk (by rfl) (by rfl) (fun b4 => ?_)
    repeat first
      | refine W_seq ?_
      | refine W_skip ?_
      | refine W_block ?_
      | refine W_blk ?_
      | refine W_exit (by rfl) ?_
      | refine W_region (by rfl) ?_
      | refine W_opsnil ?_
      | refine W_pure TOk (by rfl) (by first | trivial | (simp only [okI, and_true, true_and, and_self] <;> omega)) ?_
      | refine W_on (by rfl) (by rfl) (by rfl) ?_
      | refine W_off (by rfl) (by rfl) (by rfl) (by rfl) (by rfl) ?_
      | refine W_offU (by rfl) (by rfl) (by rfl) (by rfl) ?_
      | refine W_cond_t (by rfl) ?_
      | refine W_cond_f (by rfl) ?_
      | refine W_load_box 0 TOk (by rfl) (by rfl) (by rfl) (by rfl) (by rfl) ?_
      | refine W_load_boxN 0 TOk (by rfl) (by rfl) (by rfl) (by rfl) (by rfl) ?_
      | (refine W_store_box 0 TOk (by rfl) (by rfl) (by rfl) (by rfl) (by rfl) (by rfl) ?_; dsimp only [setL, putL, vcells])
    refine W_lit TOk (cs := [_, _]) (by rfl) sl48 (by rfl) (by rfl) (by rfl) (by rfl) (fun g5 => ?_)
    refine W_pick 2 (by rfl) ?_
    refine W_turn _ (by rfl) Try.call66 (by rfl) (fun w1 hw => Insert_c _ w1 b [97, 98, 10, 99] 4 0 1 _ 2 [120, 10] _ hw.le hw.hp (Reads.own 0 rfl) (by decide) (by decide)) ?_
    rintro _ _ ⟨rfl, rfl⟩
    rw [show insS [97, 98, 10, 99] 0 1 [120, 10] = (0, [97, 120, 10, 98, 10, 99]) by decide]
    repeat first
      | refine W_seq ?_
      | refine W_skip ?_
      | refine W_block ?_
      | refine W_blk ?_
      | refine W_exit (by rfl) ?_
      | refine W_region (by rfl) ?_
      | refine W_opsnil ?_
      | refine W_pure TOk (by rfl) (by first | trivial | (simp only [okI, and_true, true_and, and_self] <;> omega)) ?_
      | refine W_on (by rfl) (by rfl) (by rfl) ?_
      | refine W_off (by rfl) (by rfl) (by rfl) (by rfl) (by rfl) ?_
      | refine W_offU (by rfl) (by rfl) (by rfl) (by rfl) ?_
      | refine W_cond_t (by rfl) ?_
      | refine W_cond_f (by rfl) ?_
    refine W_turn _ (by rfl) Try.call68 (by rfl) (fun w1 hw => Delete_c _ w1 b [97, 120, 10, 98, 10, 99] _ 0 2 1 0 _ hw.le hw.hp (by decide)) ?_
    rintro _ _ ⟨rfl, rfl⟩
    rw [show delS [97, 120, 10, 98, 10, 99] 0 2 1 0 = (0, [97, 120, 98, 10, 99]) by decide]
    repeat first
      | refine W_seq ?_
      | refine W_skip ?_
      | refine W_block ?_
      | refine W_blk ?_
      | refine W_exit (by rfl) ?_
      | refine W_region (by rfl) ?_
      | refine W_opsnil ?_
      | refine W_pure TOk (by rfl) (by first | trivial | (simp only [okI, and_true, true_and, and_self] <;> omega)) ?_
      | refine W_on (by rfl) (by rfl) (by rfl) ?_
      | refine W_off (by rfl) (by rfl) (by rfl) (by rfl) (by rfl) ?_
      | refine W_offU (by rfl) (by rfl) (by rfl) (by rfl) ?_
      | refine W_cond_t (by rfl) ?_
      | refine W_cond_f (by rfl) ?_
    refine W_call _ (by rfl) Try.call65 (by rfl) (fun w1 hw => All_c w1 b [97, 120, 98, 10, 99] (textAt 0 hw.hp rfl)) ?_; rintro _ _ ⟨A6, c6, A7, c7, rfl, hc6, rfl⟩; dsimp only [List.cons_append, List.nil_append]
    repeat first
      | refine W_seq ?_
      | refine W_skip ?_
      | refine W_block ?_
      | refine W_blk ?_
      | refine W_exit (by rfl) ?_
      | refine W_region (by rfl) ?_
      | refine W_opsnil ?_
      | refine W_pure TOk (by rfl) (by first | trivial | (simp only [okI, and_true, true_and, and_self] <;> omega)) ?_
      | refine W_on (by rfl) (by rfl) (by rfl) ?_
      | refine W_off (by rfl) (by rfl) (by rfl) (by rfl) (by rfl) ?_
      | refine W_offU (by rfl) (by rfl) (by rfl) (by rfl) ?_
      | refine W_cond_t (by rfl) ?_
      | refine W_cond_f (by rfl) ?_
    refine W_pick 2 (by rfl) ?_
    refine W_turn _ (by rfl) Try.call71 (by rfl) (fun w1 hw => Replace_c _ w1 b [97, 120, 98, 10, 99] _ 0 2 none 0 [] _ hw.le hw.hp (fun w' _ _ => RowsAt.nil w' none) (by decide) (by decide)) ?_
    rintro _ _ ⟨rfl, rfl⟩
    rw [show repS [97, 120, 98, 10, 99] 0 2 [] = (0, []) by decide]
    repeat first
      | refine W_seq ?_
      | refine W_skip ?_
      | refine W_block ?_
      | refine W_blk ?_
      | refine W_exit (by rfl) ?_
      | refine W_region (by rfl) ?_
      | refine W_opsnil ?_
      | refine W_pure TOk (by rfl) (by first | trivial | (simp only [okI, and_true, true_and, and_self] <;> omega)) ?_
      | refine W_on (by rfl) (by rfl) (by rfl) ?_
      | refine W_off (by rfl) (by rfl) (by rfl) (by rfl) (by rfl) ?_
      | refine W_offU (by rfl) (by rfl) (by rfl) (by rfl) ?_
      | refine W_cond_t (by rfl) ?_
      | refine W_cond_f (by rfl) ?_
      | refine W_load_box 0 TOk (by rfl) (by rfl) (by rfl) (by rfl) (by rfl) ?_
      | refine W_load_box 1 TOk (by rfl) (by rfl) (by rfl) (by rfl) (by rfl) ?_
      | refine W_load_box 2 TOk (by rfl) (by rfl) (by rfl) (by rfl) (by rfl) ?_
      | refine W_load_box 3 TOk (by rfl) (by rfl) (by rfl) (by rfl) (by rfl) ?_
      | refine W_load_box 4 TOk (by rfl) (by rfl) (by rfl) (by rfl) (by rfl) ?_
      | refine W_load_boxN 0 TOk (by rfl) (by rfl) (by rfl) (by rfl) (by rfl) ?_
      | refine W_load_boxN 1 TOk (by rfl) (by rfl) (by rfl) (by rfl) (by rfl) ?_
      | refine W_load_boxN 2 TOk (by rfl) (by rfl) (by rfl) (by rfl) (by rfl) ?_
      | refine W_load_boxN 3 TOk (by rfl) (by rfl) (by rfl) (by rfl) (by rfl) ?_
      | refine W_load_boxN 4 TOk (by rfl) (by rfl) (by rfl) (by rfl) (by rfl) ?_
      | (refine W_store_box 0 TOk (by rfl) (by rfl) (by rfl) (by rfl) (by rfl) (by rfl) ?_; dsimp only [setL, putL, vcells])
      | (refine W_store_box 1 TOk (by rfl) (by rfl) (by rfl) (by rfl) (by rfl) (by rfl) ?_; dsimp only [setL, putL, vcells])
      | (refine W_store_box 2 TOk (by rfl) (by rfl) (by rfl) (by rfl) (by rfl) (by rfl) ?_; dsimp only [setL, putL, vcells])
      | (refine W_store_box 3 TOk (by rfl) (by rfl) (by rfl) (by rfl) (by rfl) (by rfl) ?_; dsimp only [setL, putL, vcells])
      | (refine W_store_box 4 TOk (by rfl) (by rfl) (by rfl) (by rfl) (by rfl) (by rfl) ?_; dsimp only [setL, putL, vcells])
    refine W_lit TOk (cs := [_, _, _]) (by rfl) sl48 (by rfl) (by rfl) (by rfl) (by rfl) (fun g8 => ?_)
    repeat first
      | refine W_seq ?_
      | refine W_skip ?_
      | refine W_block ?_
      | refine W_blk ?_
      | refine W_exit (by rfl) ?_
      | refine W_region (by rfl) ?_
      | refine W_opsnil ?_
      | refine W_pure TOk (by rfl) (by first | trivial | (simp only [okI, and_true, true_and, and_self] <;> omega)) ?_
      | refine W_on (by rfl) (by rfl) (by rfl) ?_
      | refine W_off (by rfl) (by rfl) (by rfl) (by rfl) (by rfl) ?_
      | refine W_offU (by rfl) (by rfl) (by rfl) (by rfl) ?_
      | refine W_cond_t (by rfl) ?_
      | refine W_cond_f (by rfl) ?_
    refine W_lit TOk (cs := [_]) (by rfl) (by first | exact sl48 | exact sl22 | exact sl136 | exact sl150 | exact sl223 | exact sl29 | exact sl132 | exact sl207) (by rfl) (by rfl) (by rfl) (by rfl) (fun g9 => ?_)
    repeat first
      | refine W_seq ?_
      | refine W_skip ?_
      | refine W_block ?_
      | refine W_blk ?_
      | refine W_exit (by rfl) ?_
      | refine W_region (by rfl) ?_
      | refine W_opsnil ?_
      | refine W_pure TOk (by rfl) (by first | trivial | (simp only [okI, and_true, true_and, and_self] <;> omega)) ?_
      | refine W_on (by rfl) (by rfl) (by rfl) ?_
      | refine W_off (by rfl) (by rfl) (by rfl) (by rfl) (by rfl) ?_
      | refine W_offU (by rfl) (by rfl) (by rfl) (by rfl) ?_
      | refine W_cond_t (by rfl) ?_
      | refine W_cond_f (by rfl) ?_
    refine W_lit TOk (cs := [_, _]) (by rfl) sl22 (by rfl) (by rfl) (by rfl) (by rfl) (fun g10 => ?_)
    repeat first
      | refine W_seq ?_
      | refine W_skip ?_
      | refine W_block ?_
      | refine W_blk ?_
      | refine W_exit (by rfl) ?_
      | refine W_region (by rfl) ?_
      | refine W_opsnil ?_
      | refine W_pure TOk (by rfl) (by first | trivial | (simp only [okI, and_true, true_and, and_self] <;> omega)) ?_
      | refine W_on (by rfl) (by rfl) (by rfl) ?_
      | refine W_off (by rfl) (by rfl) (by rfl) (by rfl) (by rfl) ?_
      | refine W_offU (by rfl) (by rfl) (by rfl) (by rfl) ?_
      | refine W_cond_t (by rfl) ?_
      | refine W_cond_f (by rfl) ?_
    refine W_callV (by rfl) Try.call50 (by rfl) (fun w1 hw => Same_c w1 A7 _ c7 2 (splitL [97, 120, 98, 10, 99]) [[97, 120, 98], [99]] (rows_all (hw.hp.cells 4 rfl) (hw.hp.cells 5 rfl) hc6) (rows_two (hw.hp.cells 0 rfl) (hw.hp.cells 2 rfl) (hw.hp.cells 1 rfl) (by decide) (by decide)) (by decide) (by decide)) ?_
    rw [show splitL [97, 120, 98, 10, 99] = [[97, 120, 98], [99]] by decide]
    rw [decide_eq_true rfl]
    repeat first
      | refine W_seq ?_
      | refine W_skip ?_
      | refine W_block ?_
      | refine W_blk ?_
      | refine W_exit (by rfl) ?_
      | refine W_region (by rfl) ?_
      | refine W_opsnil ?_
      | refine W_pure TOk (by rfl) (by first | trivial | (simp only [okI, and_true, true_and, and_self] <;> omega)) ?_
      | refine W_on (by rfl) (by rfl) (by rfl) ?_
      | refine W_off (by rfl) (by rfl) (by rfl) (by rfl) (by rfl) ?_
      | refine W_offU (by rfl) (by rfl) (by rfl) (by rfl) ?_
      | refine W_cond_t (by rfl) ?_
      | refine W_cond_f (by rfl) ?_
    refine W_callV (by rfl) Try.call43 (by rfl) (fun w1 hw => Count_c w1 b [] (textAt 3 hw.hp rfl)) ?_
    repeat first
      | refine W_seq ?_
      | refine W_skip ?_
      | refine W_block ?_
      | refine W_blk ?_
      | refine W_exit (by rfl) ?_
      | refine W_region (by rfl) ?_
      | refine W_opsnil ?_
      | refine W_pure TOk (by rfl) (by first | trivial | (simp only [okI, and_true, true_and, and_self] <;> omega)) ?_
      | refine W_on (by rfl) (by rfl) (by rfl) ?_
      | refine W_off (by rfl) (by rfl) (by rfl) (by rfl) (by rfl) ?_
      | refine W_offU (by rfl) (by rfl) (by rfl) (by rfl) ?_
      | refine W_cond_t (by rfl) ?_
      | refine W_cond_f (by rfl) ?_
    refine W_callV (by rfl) Try.call40 (by rfl) (fun w1 hw => TRunes_c w1 b [] (textAt 3 hw.hp rfl)) ?_
    repeat first
      | refine W_seq ?_
      | refine W_skip ?_
      | refine W_block ?_
      | refine W_blk ?_
      | refine W_exit (by rfl) ?_
      | refine W_region (by rfl) ?_
      | refine W_opsnil ?_
      | refine W_pure TOk (by rfl) (by first | trivial | (simp only [okI, and_true, true_and, and_self] <;> omega)) ?_
      | refine W_on (by rfl) (by rfl) (by rfl) ?_
      | refine W_off (by rfl) (by rfl) (by rfl) (by rfl) (by rfl) ?_
      | refine W_offU (by rfl) (by rfl) (by rfl) (by rfl) ?_
      | refine W_cond_t (by rfl) ?_
      | refine W_cond_f (by rfl) ?_
    exact W_retF (vs := [_]) ⟨rfl, trivial⟩ (Ent.nil _) ⟨rfl, rfl⟩
  · exact absurd ⟨by decide, by decide⟩ hp
end Go.Proofs.Ytdfibmbedjpcgaa
