/- TextUndoes: what is put in and taken out again leaves all as it was. -/
import Derived.Test.YtdfibmbedjpcgaaLu
set_option linter.unusedVariables false
set_option linter.unusedSimpArgs false
namespace Go.Proofs.Ytdfibmbedjpcgaa
open Go Go.RowKit Eng Ls
attribute [local irreducible] Eng.W

set_option maxHeartbeats 4000000 in
theorem TextUndoes_c (w : World) (A0 : Option Addr) (c0 : Nat) (xss : List (List Int)) (hl : RowsAt w A0 xss) (hb : xss.length ≤ 300 → tot xss ≤ 36028797018963968) (n : Int) (A1 : Option Addr) (c1 : Nat) (more : List Int) (hm : Cells w A1 (i32s more)) (hmb : more.length ≤ 1125899906842624) :
    Val Try.prog 12 [.slice A0 xss.length c0, .int .i64 n, .slice A1 more.length c1] w (.bool true) := by
  refine enterF Try.func12 rfl Try.ntmps12 rfl rfl ?_
  repeat first
    | refine W_seq ?_
    | refine W_skip ?_
    | refine W_block ?_
    | refine W_blk ?_
    | refine W_exit (by rfl) ?_
    | refine W_region (by rfl) ?_
    | refine W_opsnil ?_
    | refine W_pure TOk (by rfl) (by first | trivial | (simp only [okI, and_true, true_and, and_self] <;> omega)) ?_
    | refine W_on (by rfl) (by rfl) (by rfl) ?_
    | refine W_off (by rfl) (by rfl) (by rfl) (by rfl) (by rfl) ?_
    | refine W_offU (by rfl) (by rfl) (by rfl) (by rfl) ?_
    | refine W_cond_t (by rfl) ?_
    | refine W_cond_f (by rfl) ?_
  refine W_callV (by rfl) Try.call37 (by rfl) (fun w1 hw => Small_c w1 A0 c0 xss (hl.below hw.below) hb) ?_
  repeat first
    | refine W_seq ?_
    | refine W_skip ?_
    | refine W_block ?_
    | refine W_blk ?_
    | refine W_exit (by rfl) ?_
    | refine W_region (by rfl) ?_
    | refine W_opsnil ?_
    | refine W_pure TOk (by rfl) (by first | trivial | (simp only [okI, and_true, true_and, and_self] <;> omega)) ?_
    | refine W_on (by rfl) (by rfl) (by rfl) ?_
    | refine W_off (by rfl) (by rfl) (by rfl) (by rfl) (by rfl) ?_
    | refine W_offU (by rfl) (by rfl) (by rfl) (by rfl) ?_
    | refine W_cond_t (by rfl) ?_
    | refine W_cond_f (by rfl) ?_
  refine W_dec 17 (by rfl) (fun hs => ?_) (fun hs => ?_)
  · repeat first
      | refine W_seq ?_
      | refine W_skip ?_
      | refine W_block ?_
      | refine W_blk ?_
      | refine W_exit (by rfl) ?_
      | refine W_region (by rfl) ?_
      | refine W_opsnil ?_
      | refine W_pure TOk (by rfl) (by first | trivial | (simp only [okI, and_true, true_and, and_self] <;> omega)) ?_
      | refine W_on (by rfl) (by rfl) (by rfl) ?_
      | refine W_off (by rfl) (by rfl) (by rfl) (by rfl) (by rfl) ?_
      | refine W_offU (by rfl) (by rfl) (by rfl) (by rfl) ?_
      | refine W_cond_t (by rfl) ?_
      | refine W_cond_f (by rfl) ?_
    exact W_retF (vs := [_]) ⟨rfl, trivial⟩ (Ent.refl _) ⟨rfl, rfl⟩
  · have hsm : small xss = true := by simpa using hs
    have hsm2 : xss.length ≤ 300 ∧ runes xss ≤ 3000 := by simpa [small] using hsm
    have hru : runes xss = xss.length - 1 + tot xss := rfl
    repeat first
      | refine W_seq ?_
      | refine W_skip ?_
      | refine W_block ?_
      | refine W_blk ?_
      | refine W_exit (by rfl) ?_
      | refine W_region (by rfl) ?_
      | refine W_opsnil ?_
      | refine W_pure TOk (by rfl) (by first | trivial | (simp only [okI, and_true, true_and, and_self] <;> omega)) ?_
      | refine W_on (by rfl) (by rfl) (by rfl) ?_
      | refine W_off (by rfl) (by rfl) (by rfl) (by rfl) (by rfl) ?_
      | refine W_offU (by rfl) (by rfl) (by rfl) (by rfl) ?_
      | refine W_cond_t (by rfl) ?_
      | refine W_cond_f (by rfl) ?_
    refine W_cond_d (by rfl) (fun hbig => ?_) (fun hfew => ?_)
    · repeat first
        | refine W_seq ?_
        | refine W_skip ?_
        | refine W_block ?_
        | refine W_blk ?_
        | refine W_exit (by rfl) ?_
        | refine W_region (by rfl) ?_
        | refine W_opsnil ?_
        | refine W_pure TOk (by rfl) (by first | trivial | (simp only [okI, and_true, true_and, and_self] <;> omega)) ?_
        | refine W_on (by rfl) (by rfl) (by rfl) ?_
        | refine W_off (by rfl) (by rfl) (by rfl) (by rfl) (by rfl) ?_
        | refine W_offU (by rfl) (by rfl) (by rfl) (by rfl) ?_
        | refine W_cond_t (by rfl) ?_
        | refine W_cond_f (by rfl) ?_
      exact W_retF (vs := [_]) ⟨rfl, trivial⟩ (Ent.refl _) ⟨rfl, rfl⟩
    · repeat first
        | refine W_seq ?_
        | refine W_skip ?_
        | refine W_block ?_
        | refine W_blk ?_
        | refine W_exit (by rfl) ?_
        | refine W_region (by rfl) ?_
        | refine W_opsnil ?_
        | refine W_pure TOk (by rfl) (by first | trivial | (simp only [okI, and_true, true_and, and_self] <;> omega)) ?_
        | refine W_on (by rfl) (by rfl) (by rfl) ?_
        | refine W_off (by rfl) (by rfl) (by rfl) (by rfl) (by rfl) ?_
        | refine W_offU (by rfl) (by rfl) (by rfl) (by rfl) ?_
        | refine W_cond_t (by rfl) ?_
        | refine W_cond_f (by rfl) ?_
      refine W_call _ (by rfl) Try.call38 (by rfl) (fun w1 hw => New_c w1 A0 c0 xss (hl.below hw.below) (by omega)) ?_
      intro v0 M0 hj0
      rcases hj0 with ⟨hp, b, rfl, rfl⟩ | ⟨hp, rfl, rfl⟩ <;> dsimp only [List.cons_append, List.nil_append]
      · have hxl := joinL_length xss
        generalize joinL xss = x at *
        repeat first
          | refine W_seq ?_
          | refine W_skip ?_
          | refine W_block ?_
          | refine W_blk ?_
          | refine W_exit (by rfl) ?_
          | refine W_region (by rfl) ?_
          | refine W_opsnil ?_
          | refine W_pure TOk (by rfl) (by first | trivial | (simp only [okI, and_true, true_and, and_self] <;> omega)) ?_
          | refine W_on (by rfl) (by rfl) (by rfl) ?_
          | refine W_off (by rfl) (by rfl) (by rfl) (by rfl) (by rfl) ?_
          | refine W_offU (by rfl) (by rfl) (by rfl) (by rfl) ?_
          | refine W_cond_t (by rfl) ?_
          | refine W_cond_f (by rfl) ?_
        refine W_call _ (by rfl) Try.call65 (by rfl) (fun w1 hw => All_c w1 b x (textAt 0 hw.hp rfl)) ?_; rintro _ _ ⟨A6, c6, A7, c7, rfl, hc6, rfl⟩; dsimp only [List.cons_append, List.nil_append]
        repeat first
          | refine W_seq ?_
          | refine W_skip ?_
          | refine W_block ?_
          | refine W_blk ?_
          | refine W_exit (by rfl) ?_
          | refine W_region (by rfl) ?_
          | refine W_opsnil ?_
          | refine W_pure TOk (by rfl) (by first | trivial | (simp only [okI, and_true, true_and, and_self] <;> omega)) ?_
          | refine W_on (by rfl) (by rfl) (by rfl) ?_
          | refine W_off (by rfl) (by rfl) (by rfl) (by rfl) (by rfl) ?_
          | refine W_offU (by rfl) (by rfl) (by rfl) (by rfl) ?_
          | refine W_cond_t (by rfl) ?_
          | refine W_cond_f (by rfl) ?_
        refine W_callV (by rfl) Try.call40 (by rfl) (fun w1 hw => TRunes_c w1 b x (textAt 2 hw.hp rfl)) ?_
        repeat first
          | refine W_seq ?_
          | refine W_skip ?_
          | refine W_block ?_
          | refine W_blk ?_
          | refine W_exit (by rfl) ?_
          | refine W_region (by rfl) ?_
          | refine W_opsnil ?_
          | refine W_pure TOk (by rfl) (by first | trivial | (simp only [okI, and_true, true_and, and_self] <;> omega)) ?_
          | refine W_on (by rfl) (by rfl) (by rfl) ?_
          | refine W_off (by rfl) (by rfl) (by rfl) (by rfl) (by rfl) ?_
          | refine W_offU (by rfl) (by rfl) (by rfl) (by rfl) ?_
          | refine W_cond_t (by rfl) ?_
          | refine W_cond_f (by rfl) ?_
        obtain ⟨N, hN, hNx⟩ : ∃ N : Nat, maxI 0 (minI n (x.length : Nat)) = (N : Int) ∧ N ≤ x.length := by
          refine ⟨(maxI 0 (minI n (x.length : Nat))).toNat, ?_, ?_⟩ <;> unfold maxI minI <;> split <;> split <;> omega
        rw [hN]
        have hpre := chg_take (l := more) (m := 0) hNx
        have hx'l := chg_len (x := x) (l := more) (a := N) (n := 0) (by omega)
        have hback := undo_back (more := more) hNx
        have hgot := undo_got (more := more) hNx
        obtain ⟨i, c, hi, hc, hnc, hi', hc', hnc'⟩ := place_prefix (x' := chg x more N 0) hNx (by omega) hpre
        have hpl := placeS_at hi hc
        have hof := offS_at hi hc
        have hof' := offS_at hi' hc'
        rw [← hnc] at hpl hof
        rw [← hnc'] at hof'
        have hins : insS x i c more = (0, chg x more N 0) := by
          unfold insS; rw [hof]; dsimp only; rw [if_neg (by decide), Int.toNat_natCast]; unfold chgS; rw [if_neg (by omega)]
        refine W_callV (by rfl) Try.call41 (by rfl) (fun w1 hw => Place_c w1 b x N (textAt 2 hw.hp rfl)) ?_
        rw [hpl]
        repeat first
          | refine W_seq ?_
          | refine W_skip ?_
          | refine W_block ?_
          | refine W_blk ?_
          | refine W_exit (by rfl) ?_
          | refine W_region (by rfl) ?_
          | refine W_opsnil ?_
          | refine W_pure TOk (by rfl) (by first | trivial | (simp only [okI, and_true, true_and, and_self] <;> omega)) ?_
          | refine W_on (by rfl) (by rfl) (by rfl) ?_
          | refine W_off (by rfl) (by rfl) (by rfl) (by rfl) (by rfl) ?_
          | refine W_offU (by rfl) (by rfl) (by rfl) (by rfl) ?_
          | refine W_cond_t (by rfl) ?_
          | refine W_cond_f (by rfl) ?_
        refine W_alloc (cs := [_, _]) TOk (by rfl) (by rfl) (fun b9 => ?_)
        repeat first
          | refine W_seq ?_
          | refine W_skip ?_
          | refine W_block ?_
          | refine W_blk ?_
          | refine W_exit (by rfl) ?_
          | refine W_region (by rfl) ?_
          | refine W_opsnil ?_
          | refine W_pure TOk (by rfl) (by first | trivial | (simp only [okI, and_true, true_and, and_self] <;> omega)) ?_
          | refine W_on (by rfl) (by rfl) (by rfl) ?_
          | refine W_off (by rfl) (by rfl) (by rfl) (by rfl) (by rfl) ?_
          | refine W_offU (by rfl) (by rfl) (by rfl) (by rfl) ?_
          | refine W_cond_t (by rfl) ?_
          | refine W_cond_f (by rfl) ?_
          | refine W_load_box 0 TOk (by rfl) (by rfl) (by rfl) (by rfl) (by rfl) ?_
          | refine W_load_boxN 0 TOk (by rfl) (by rfl) (by rfl) (by rfl) (by rfl) ?_
          | (refine W_store_box 0 TOk (by rfl) (by rfl) (by rfl) (by rfl) (by rfl) (by rfl) ?_; dsimp only [setL, putL, vcells])
        refine W_pick 3 (by rfl) ?_
        refine W_turn _ (by rfl) Try.call66 (by rfl) (fun w1 hw => Insert_c _ w1 b x x.length i c A1 c1 more _ hw.le hw.hp (Reads.below fun w' hb => hm.below (hw.below.trans hb)) (by omega) (by omega)) ?_
        rintro _ _ ⟨rfl, rfl⟩
        rw [hins]
        generalize chg x more N 0 = x' at *
        obtain ⟨i2, c2, hi2, hc2, hnc2⟩ := in_line x' (n := N + more.length) (by omega)
        have hpl2 := placeS_at hi2 hc2
        have hof2 := offS_at hi2 hc2
        rw [← hnc2] at hpl2 hof2
        have hbt : betS x' i c i2 c2 = ((N : Int), (more.length : Int), 0) := by
          unfold betS btw; rw [hof', hof2]; dsimp only
          rw [if_neg (by decide), if_neg (by decide), if_neg (by omega)]
          simp only [Prod.mk.injEq, and_true, true_and]; omega
        have hsl : sliS x' i c i2 c2 = (more, 0) := by
          unfold sliS; rw [hbt]; dsimp only; rw [if_neg (by decide), Int.toNat_natCast, Int.toNat_natCast, hgot]
        have hde : delS x' i c i2 c2 = (0, x) := by
          unfold delS; rw [hbt]; dsimp only; rw [if_neg (by decide), Int.toNat_natCast, Int.toNat_natCast]; unfold chgS; rw [if_neg (by simp; omega), hback]
        have hcast : (N : Int) + (more.length : Int) = ((N + more.length : Nat) : Int) := by omega
        repeat first
          | refine W_seq ?_
          | refine W_skip ?_
          | refine W_block ?_
          | refine W_blk ?_
          | refine W_exit (by rfl) ?_
          | refine W_region (by rfl) ?_
          | refine W_opsnil ?_
          | refine W_pure TOk (by rfl) (by first | trivial | (simp only [okI, and_true, true_and, and_self] <;> omega)) ?_
          | refine W_on (by rfl) (by rfl) (by rfl) ?_
          | refine W_off (by rfl) (by rfl) (by rfl) (by rfl) (by rfl) ?_
          | refine W_offU (by rfl) (by rfl) (by rfl) (by rfl) ?_
          | refine W_cond_t (by rfl) ?_
          | refine W_cond_f (by rfl) ?_
          | refine W_load_box 0 TOk (by rfl) (by rfl) (by rfl) (by rfl) (by rfl) ?_
          | refine W_load_box 1 TOk (by rfl) (by rfl) (by rfl) (by rfl) (by rfl) ?_
          | refine W_load_boxN 0 TOk (by rfl) (by rfl) (by rfl) (by rfl) (by rfl) ?_
          | refine W_load_boxN 1 TOk (by rfl) (by rfl) (by rfl) (by rfl) (by rfl) ?_
          | (refine W_store_box 0 TOk (by rfl) (by rfl) (by rfl) (by rfl) (by rfl) (by rfl) ?_; dsimp only [setL, putL, vcells])
          | (refine W_store_box 1 TOk (by rfl) (by rfl) (by rfl) (by rfl) (by rfl) (by rfl) ?_; dsimp only [setL, putL, vcells])
        rw [hcast]
        refine W_callV (by rfl) Try.call41 (by rfl) (fun w1 hw => Place_c w1 b x' (N + more.length : Nat) (textAt 0 hw.hp rfl)) ?_
        rw [hpl2]
        repeat first
          | refine W_seq ?_
          | refine W_skip ?_
          | refine W_block ?_
          | refine W_blk ?_
          | refine W_exit (by rfl) ?_
          | refine W_region (by rfl) ?_
          | refine W_opsnil ?_
          | refine W_pure TOk (by rfl) (by first | trivial | (simp only [okI, and_true, true_and, and_self] <;> omega)) ?_
          | refine W_on (by rfl) (by rfl) (by rfl) ?_
          | refine W_off (by rfl) (by rfl) (by rfl) (by rfl) (by rfl) ?_
          | refine W_offU (by rfl) (by rfl) (by rfl) (by rfl) ?_
          | refine W_cond_t (by rfl) ?_
          | refine W_cond_f (by rfl) ?_
          | refine W_load_box 0 TOk (by rfl) (by rfl) (by rfl) (by rfl) (by rfl) ?_
          | refine W_load_box 1 TOk (by rfl) (by rfl) (by rfl) (by rfl) (by rfl) ?_
          | refine W_load_boxN 0 TOk (by rfl) (by rfl) (by rfl) (by rfl) (by rfl) ?_
          | refine W_load_boxN 1 TOk (by rfl) (by rfl) (by rfl) (by rfl) (by rfl) ?_
          | (refine W_store_box 0 TOk (by rfl) (by rfl) (by rfl) (by rfl) (by rfl) (by rfl) ?_; dsimp only [setL, putL, vcells])
          | (refine W_store_box 1 TOk (by rfl) (by rfl) (by rfl) (by rfl) (by rfl) (by rfl) ?_; dsimp only [setL, putL, vcells])
        refine W_alloc (cs := [_, _]) TOk (by rfl) (by rfl) (fun b11 => ?_)
        repeat first
          | refine W_seq ?_
          | refine W_skip ?_
          | refine W_block ?_
          | refine W_blk ?_
          | refine W_exit (by rfl) ?_
          | refine W_region (by rfl) ?_
          | refine W_opsnil ?_
          | refine W_pure TOk (by rfl) (by first | trivial | (simp only [okI, and_true, true_and, and_self] <;> omega)) ?_
          | refine W_on (by rfl) (by rfl) (by rfl) ?_
          | refine W_off (by rfl) (by rfl) (by rfl) (by rfl) (by rfl) ?_
          | refine W_offU (by rfl) (by rfl) (by rfl) (by rfl) ?_
          | refine W_cond_t (by rfl) ?_
          | refine W_cond_f (by rfl) ?_
          | refine W_load_box 0 TOk (by rfl) (by rfl) (by rfl) (by rfl) (by rfl) ?_
          | refine W_load_box 1 TOk (by rfl) (by rfl) (by rfl) (by rfl) (by rfl) ?_
          | refine W_load_box 2 TOk (by rfl) (by rfl) (by rfl) (by rfl) (by rfl) ?_
          | refine W_load_box 3 TOk (by rfl) (by rfl) (by rfl) (by rfl) (by rfl) ?_
          | refine W_load_boxN 0 TOk (by rfl) (by rfl) (by rfl) (by rfl) (by rfl) ?_
          | refine W_load_boxN 1 TOk (by rfl) (by rfl) (by rfl) (by rfl) (by rfl) ?_
          | refine W_load_boxN 2 TOk (by rfl) (by rfl) (by rfl) (by rfl) (by rfl) ?_
          | refine W_load_boxN 3 TOk (by rfl) (by rfl) (by rfl) (by rfl) (by rfl) ?_
          | (refine W_store_box 0 TOk (by rfl) (by rfl) (by rfl) (by rfl) (by rfl) (by rfl) ?_; dsimp only [setL, putL, vcells])
          | (refine W_store_box 1 TOk (by rfl) (by rfl) (by rfl) (by rfl) (by rfl) (by rfl) ?_; dsimp only [setL, putL, vcells])
          | (refine W_store_box 2 TOk (by rfl) (by rfl) (by rfl) (by rfl) (by rfl) (by rfl) ?_; dsimp only [setL, putL, vcells])
          | (refine W_store_box 3 TOk (by rfl) (by rfl) (by rfl) (by rfl) (by rfl) (by rfl) ?_; dsimp only [setL, putL, vcells])
        refine W_call _ (by rfl) Try.call67 (by rfl) (fun w1 hw => Slice_c w1 b x' i c i2 c2 (textAt 1 hw.hp rfl)) ?_
        rw [hsl]
        rintro _ _ ⟨A8, c8, rfl, rfl⟩
        dsimp only [List.cons_append, List.nil_append]
        repeat first
          | refine W_seq ?_
          | refine W_skip ?_
          | refine W_block ?_
          | refine W_blk ?_
          | refine W_exit (by rfl) ?_
          | refine W_region (by rfl) ?_
          | refine W_opsnil ?_
          | refine W_pure TOk (by rfl) (by first | trivial | (simp only [okI, and_true, true_and, and_self] <;> omega)) ?_
          | refine W_on (by rfl) (by rfl) (by rfl) ?_
          | refine W_off (by rfl) (by rfl) (by rfl) (by rfl) (by rfl) ?_
          | refine W_offU (by rfl) (by rfl) (by rfl) (by rfl) ?_
          | refine W_cond_t (by rfl) ?_
          | refine W_cond_f (by rfl) ?_
          | refine W_load_box 0 TOk (by rfl) (by rfl) (by rfl) (by rfl) (by rfl) ?_
          | refine W_load_box 1 TOk (by rfl) (by rfl) (by rfl) (by rfl) (by rfl) ?_
          | refine W_load_box 2 TOk (by rfl) (by rfl) (by rfl) (by rfl) (by rfl) ?_
          | refine W_load_box 3 TOk (by rfl) (by rfl) (by rfl) (by rfl) (by rfl) ?_
          | refine W_load_box 4 TOk (by rfl) (by rfl) (by rfl) (by rfl) (by rfl) ?_
          | refine W_load_boxN 0 TOk (by rfl) (by rfl) (by rfl) (by rfl) (by rfl) ?_
          | refine W_load_boxN 1 TOk (by rfl) (by rfl) (by rfl) (by rfl) (by rfl) ?_
          | refine W_load_boxN 2 TOk (by rfl) (by rfl) (by rfl) (by rfl) (by rfl) ?_
          | refine W_load_boxN 3 TOk (by rfl) (by rfl) (by rfl) (by rfl) (by rfl) ?_
          | refine W_load_boxN 4 TOk (by rfl) (by rfl) (by rfl) (by rfl) (by rfl) ?_
          | (refine W_store_box 0 TOk (by rfl) (by rfl) (by rfl) (by rfl) (by rfl) (by rfl) ?_; dsimp only [setL, putL, vcells])
          | (refine W_store_box 1 TOk (by rfl) (by rfl) (by rfl) (by rfl) (by rfl) (by rfl) ?_; dsimp only [setL, putL, vcells])
          | (refine W_store_box 2 TOk (by rfl) (by rfl) (by rfl) (by rfl) (by rfl) (by rfl) ?_; dsimp only [setL, putL, vcells])
          | (refine W_store_box 3 TOk (by rfl) (by rfl) (by rfl) (by rfl) (by rfl) (by rfl) ?_; dsimp only [setL, putL, vcells])
          | (refine W_store_box 4 TOk (by rfl) (by rfl) (by rfl) (by rfl) (by rfl) (by rfl) ?_; dsimp only [setL, putL, vcells])
        refine W_callV (by rfl) Try.call61 (by rfl) (fun w1 hw => Runes_c w1 A8 A1 c8 c1 more more (hw.hp.cells 0 rfl) (hm.below hw.below) (by omega) (by omega)) ?_
        rw [decide_eq_true rfl]
        repeat first
          | refine W_seq ?_
          | refine W_skip ?_
          | refine W_block ?_
          | refine W_blk ?_
          | refine W_exit (by rfl) ?_
          | refine W_region (by rfl) ?_
          | refine W_opsnil ?_
          | refine W_pure TOk (by rfl) (by first | trivial | (simp only [okI, and_true, true_and, and_self] <;> omega)) ?_
          | refine W_on (by rfl) (by rfl) (by rfl) ?_
          | refine W_off (by rfl) (by rfl) (by rfl) (by rfl) (by rfl) ?_
          | refine W_offU (by rfl) (by rfl) (by rfl) (by rfl) ?_
          | refine W_cond_t (by rfl) ?_
          | refine W_cond_f (by rfl) ?_
          | refine W_load_box 0 TOk (by rfl) (by rfl) (by rfl) (by rfl) (by rfl) ?_
          | refine W_load_box 1 TOk (by rfl) (by rfl) (by rfl) (by rfl) (by rfl) ?_
          | refine W_load_box 2 TOk (by rfl) (by rfl) (by rfl) (by rfl) (by rfl) ?_
          | refine W_load_box 3 TOk (by rfl) (by rfl) (by rfl) (by rfl) (by rfl) ?_
          | refine W_load_box 4 TOk (by rfl) (by rfl) (by rfl) (by rfl) (by rfl) ?_
          | refine W_load_boxN 0 TOk (by rfl) (by rfl) (by rfl) (by rfl) (by rfl) ?_
          | refine W_load_boxN 1 TOk (by rfl) (by rfl) (by rfl) (by rfl) (by rfl) ?_
          | refine W_load_boxN 2 TOk (by rfl) (by rfl) (by rfl) (by rfl) (by rfl) ?_
          | refine W_load_boxN 3 TOk (by rfl) (by rfl) (by rfl) (by rfl) (by rfl) ?_
          | refine W_load_boxN 4 TOk (by rfl) (by rfl) (by rfl) (by rfl) (by rfl) ?_
          | (refine W_store_box 0 TOk (by rfl) (by rfl) (by rfl) (by rfl) (by rfl) (by rfl) ?_; dsimp only [setL, putL, vcells])
          | (refine W_store_box 1 TOk (by rfl) (by rfl) (by rfl) (by rfl) (by rfl) (by rfl) ?_; dsimp only [setL, putL, vcells])
          | (refine W_store_box 2 TOk (by rfl) (by rfl) (by rfl) (by rfl) (by rfl) (by rfl) ?_; dsimp only [setL, putL, vcells])
          | (refine W_store_box 3 TOk (by rfl) (by rfl) (by rfl) (by rfl) (by rfl) (by rfl) ?_; dsimp only [setL, putL, vcells])
          | (refine W_store_box 4 TOk (by rfl) (by rfl) (by rfl) (by rfl) (by rfl) (by rfl) ?_; dsimp only [setL, putL, vcells])
        refine W_pick 2 (by rfl) ?_
        refine W_turn _ (by rfl) Try.call68 (by rfl) (fun w1 hw => Delete_c _ w1 b x' (x.length + more.length) i c i2 c2 _ hw.le hw.hp (by omega)) ?_
        rintro _ _ ⟨rfl, rfl⟩
        rw [hde]
        repeat first
          | refine W_seq ?_
          | refine W_skip ?_
          | refine W_block ?_
          | refine W_blk ?_
          | refine W_exit (by rfl) ?_
          | refine W_region (by rfl) ?_
          | refine W_opsnil ?_
          | refine W_pure TOk (by rfl) (by first | trivial | (simp only [okI, and_true, true_and, and_self] <;> omega)) ?_
          | refine W_on (by rfl) (by rfl) (by rfl) ?_
          | refine W_off (by rfl) (by rfl) (by rfl) (by rfl) (by rfl) ?_
          | refine W_offU (by rfl) (by rfl) (by rfl) (by rfl) ?_
          | refine W_cond_t (by rfl) ?_
          | refine W_cond_f (by rfl) ?_
          | refine W_load_box 0 TOk (by rfl) (by rfl) (by rfl) (by rfl) (by rfl) ?_
          | refine W_load_box 1 TOk (by rfl) (by rfl) (by rfl) (by rfl) (by rfl) ?_
          | refine W_load_box 2 TOk (by rfl) (by rfl) (by rfl) (by rfl) (by rfl) ?_
          | refine W_load_box 3 TOk (by rfl) (by rfl) (by rfl) (by rfl) (by rfl) ?_
          | refine W_load_box 4 TOk (by rfl) (by rfl) (by rfl) (by rfl) (by rfl) ?_
          | refine W_load_boxN 0 TOk (by rfl) (by rfl) (by rfl) (by rfl) (by rfl) ?_
          | refine W_load_boxN 1 TOk (by rfl) (by rfl) (by rfl) (by rfl) (by rfl) ?_
          | refine W_load_boxN 2 TOk (by rfl) (by rfl) (by rfl) (by rfl) (by rfl) ?_
          | refine W_load_boxN 3 TOk (by rfl) (by rfl) (by rfl) (by rfl) (by rfl) ?_
          | refine W_load_boxN 4 TOk (by rfl) (by rfl) (by rfl) (by rfl) (by rfl) ?_
          | (refine W_store_box 0 TOk (by rfl) (by rfl) (by rfl) (by rfl) (by rfl) (by rfl) ?_; dsimp only [setL, putL, vcells])
          | (refine W_store_box 1 TOk (by rfl) (by rfl) (by rfl) (by rfl) (by rfl) (by rfl) ?_; dsimp only [setL, putL, vcells])
          | (refine W_store_box 2 TOk (by rfl) (by rfl) (by rfl) (by rfl) (by rfl) (by rfl) ?_; dsimp only [setL, putL, vcells])
          | (refine W_store_box 3 TOk (by rfl) (by rfl) (by rfl) (by rfl) (by rfl) (by rfl) ?_; dsimp only [setL, putL, vcells])
          | (refine W_store_box 4 TOk (by rfl) (by rfl) (by rfl) (by rfl) (by rfl) (by rfl) ?_; dsimp only [setL, putL, vcells])
        refine W_call _ (by rfl) Try.call65 (by rfl) (fun w1 hw => All_c w1 b x (textAt 0 hw.hp rfl)) ?_; rintro _ _ ⟨A9, c9, A10, c10, rfl, hc9, rfl⟩; dsimp only [List.cons_append, List.nil_append]
        repeat first
          | refine W_seq ?_
          | refine W_skip ?_
          | refine W_block ?_
          | refine W_blk ?_
          | refine W_exit (by rfl) ?_
          | refine W_region (by rfl) ?_
          | refine W_opsnil ?_
          | refine W_pure TOk (by rfl) (by first | trivial | (simp only [okI, and_true, true_and, and_self] <;> omega)) ?_
          | refine W_on (by rfl) (by rfl) (by rfl) ?_
          | refine W_off (by rfl) (by rfl) (by rfl) (by rfl) (by rfl) ?_
          | refine W_offU (by rfl) (by rfl) (by rfl) (by rfl) ?_
          | refine W_cond_t (by rfl) ?_
          | refine W_cond_f (by rfl) ?_
        have hll := lens_le x
        have hts := tot_split x
        have hlsp := lens_splitL x
        rw [hlsp]
        refine W_callV (by rfl) Try.call50 (by rfl) (fun w1 hw => Same_c w1 A10 A7 c10 c7 (splitL x) (splitL x) (by rw [← hlsp] at hw; exact rows_all (hw.hp.cells 0 rfl) (hw.hp.cells 1 rfl) hc9) (by rw [← hlsp] at hw; exact rows_all (hw.hp.cells 6 rfl) (hw.hp.cells 7 rfl) hc6) (by omega) (by omega)) ?_
        rw [decide_eq_true rfl]
        repeat first
          | refine W_seq ?_
          | refine W_skip ?_
          | refine W_block ?_
          | refine W_blk ?_
          | refine W_exit (by rfl) ?_
          | refine W_region (by rfl) ?_
          | refine W_opsnil ?_
          | refine W_pure TOk (by rfl) (by first | trivial | (simp only [okI, and_true, true_and, and_self] <;> omega)) ?_
          | refine W_on (by rfl) (by rfl) (by rfl) ?_
          | refine W_off (by rfl) (by rfl) (by rfl) (by rfl) (by rfl) ?_
          | refine W_offU (by rfl) (by rfl) (by rfl) (by rfl) ?_
          | refine W_cond_t (by rfl) ?_
          | refine W_cond_f (by rfl) ?_
        refine W_callV (by rfl) Try.call44 (by rfl) (fun w1 hw => awake_c w1) ?_
        repeat first
          | refine W_seq ?_
          | refine W_skip ?_
          | refine W_block ?_
          | refine W_blk ?_
          | refine W_exit (by rfl) ?_
          | refine W_region (by rfl) ?_
          | refine W_opsnil ?_
          | refine W_pure TOk (by rfl) (by first | trivial | (simp only [okI, and_true, true_and, and_self] <;> omega)) ?_
          | refine W_on (by rfl) (by rfl) (by rfl) ?_
          | refine W_off (by rfl) (by rfl) (by rfl) (by rfl) (by rfl) ?_
          | refine W_offU (by rfl) (by rfl) (by rfl) (by rfl) ?_
          | refine W_cond_t (by rfl) ?_
          | refine W_cond_f (by rfl) ?_
        exact W_retF (vs := [_]) ⟨rfl, trivial⟩ (Ent.nil _) ⟨rfl, rfl⟩
      · repeat first
          | refine W_seq ?_
          | refine W_skip ?_
          | refine W_block ?_
          | refine W_blk ?_
          | refine W_exit (by rfl) ?_
          | refine W_region (by rfl) ?_
          | refine W_opsnil ?_
          | refine W_pure TOk (by rfl) (by first | trivial | (simp only [okI, and_true, true_and, and_self] <;> omega)) ?_
          | refine W_on (by rfl) (by rfl) (by rfl) ?_
          | refine W_off (by rfl) (by rfl) (by rfl) (by rfl) (by rfl) ?_
          | refine W_offU (by rfl) (by rfl) (by rfl) (by rfl) ?_
          | refine W_cond_t (by rfl) ?_
          | refine W_cond_f (by rfl) ?_
        refine W_call _ (by rfl) Try.call39 (by rfl) (fun w1 hw => RefNew_c w1 A0 c0 xss (hl.below hw.below) (by omega)) ?_
        intro v1 M1 hj1
        rcases hj1 with ⟨hp2, b, rfl, rfl⟩ | ⟨hp2, rfl, rfl⟩ <;> dsimp only [List.cons_append, List.nil_append]
        · exact absurd hp2 hp
        · repeat first
            | refine W_seq ?_
            | refine W_skip ?_
            | refine W_block ?_
            | refine W_blk ?_
            | refine W_exit (by rfl) ?_
            | refine W_region (by rfl) ?_
            | refine W_opsnil ?_
            | refine W_pure TOk (by rfl) (by first | trivial | (simp only [okI, and_true, true_and, and_self] <;> omega)) ?_
            | refine W_on (by rfl) (by rfl) (by rfl) ?_
            | refine W_off (by rfl) (by rfl) (by rfl) (by rfl) (by rfl) ?_
            | refine W_offU (by rfl) (by rfl) (by rfl) (by rfl) ?_
            | refine W_cond_t (by rfl) ?_
            | refine W_cond_f (by rfl) ?_
          exact W_retF (vs := [_]) ⟨rfl, trivial⟩ (Ent.refl _) ⟨rfl, rfl⟩
end Go.Proofs.Ytdfibmbedjpcgaa
