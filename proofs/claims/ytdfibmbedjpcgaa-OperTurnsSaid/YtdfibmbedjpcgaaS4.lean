/- The text turned: change, Insert, Delete; Slice. -/
import Derived.Test.YtdfibmbedjpcgaaS3
set_option linter.unusedVariables false
set_option linter.unusedSimpArgs false
namespace Go.Proofs.Ytdfibmbedjpcgaa
open Go Go.RowKit Eng Ls
attribute [local irreducible] Eng.W

theorem Reads.step {B : Nat} {w w1 : World} {L M : List Ast} {A : Option Addr} {cs : List Value} (h : Reads B w L A cs) (hb : Below B w w1) (e : Ent M L) : Reads B w1 M A cs := fun w' hb' hp => h w' (hb.trans hb') (hp.ent e)
theorem blocksAt {B : Nat} {w : World} {L : List Ast} (i : Nat) (h : Hp B w L) {A : Option Addr} {c : Nat} {ss : List (List Int)} (hi : L[i]? = some (blocksA A c ss)) : BlocksAt w A ss := by
  obtain ⟨S, hS, _⟩ := h.nth i hi
  exact (BlocksAt.of hS).1
theorem beg_start (x : List Int) (i : Nat) : bsum ((lens x).take ((i : Int).toNat)) = (beg x i : Int) := by rw [beg_int, Int.toNat_natCast]
theorem rd_siz (x : List Int) (i : Nat) : rd (lens x) (i : Int) = (siz x i : Int) := by rw [siz_int]; rfl
def chg (x l : List Int) (a n : Nat) : List Int := x.take a ++ l ++ x.drop (a + n)

set_option maxHeartbeats 4000000 in
theorem change_c (B : Nat) (w : World) (b : Nat) (x : List Int) (m : Nat) (a n : Nat) (A0 : Option Addr) (c0 : Nat) (l : List Int) (Lf : List Ast) (hB : B ≤ w.heap.size) (hL : Hp B w (textA b x m :: Lf)) (hr : Reads B w Lf A0 (i32s l)) (ha : a + n ≤ x.length) (hl : l.length ≤ 1099511627776) (hm : m ≤ 1099511627776) :
    Turn Try.prog 140 [.pointer (some ⟨b, 0, none⟩), .int .i64 (a : Nat), .int .i64 (n : Nat), .slice A0 l.length c0] B w (fun v M => (l.length + x.length > 65536 + n ∧ v = .int .i64 3 ∧ M = textA b x m :: Lf) ∨ (l.length + x.length ≤ 65536 + n ∧ v = .int .i64 0 ∧ M = textA b (chg x l a n) (m + l.length) :: Lf)) := by
  have hx : x.length ≤ 65536 := (textAt 0 hL rfl).big
  refine enterT hB hL Try.func140 rfl Try.ntmps140 rfl rfl ?_
  refine W_text (fun tb A c ss h1 => ?_)
  have hok := h1.ok hx
  have hfl := h1.flat
  have hlp := lens_pos x
  have hle := lens_le x
  repeat first
    | refine W_seq ?_
    | refine W_skip ?_
    | refine W_block ?_
    | refine W_blk ?_
    | refine W_exit (by rfl) ?_
    | refine W_region (by rfl) ?_
    | refine W_opsnil ?_
    | refine W_pure TOk (by rfl) (by first | trivial | (simp only [okI, and_true, true_and, and_self] <;> omega)) ?_
    | refine W_on (by rfl) (by rfl) (by rfl) ?_
    | refine W_off (by rfl) (by rfl) (by rfl) (by rfl) (by rfl) ?_
    | refine W_offU (by rfl) (by rfl) (by rfl) (by rfl) ?_
    | refine W_cond_t (by rfl) ?_
    | refine W_cond_f (by rfl) ?_
    | refine W_load_box 0 TOk (by rfl) (by rfl) (by rfl) (by rfl) (by rfl) ?_
    | refine W_load_boxN 0 TOk (by rfl) (by rfl) (by rfl) (by rfl) (by rfl) ?_
    | (refine W_store_box 0 TOk (by rfl) (by rfl) (by rfl) (by rfl) (by rfl) (by rfl) ?_; dsimp only [setL, putL, vcells])
  refine W_callV (by rfl) Try.call108 (by rfl) (fun w1 hw => len_c w1 tb x (tabAt 1 hw.hp rfl)) ?_
  repeat first
    | refine W_seq ?_
    | refine W_skip ?_
    | refine W_block ?_
    | refine W_blk ?_
    | refine W_exit (by rfl) ?_
    | refine W_region (by rfl) ?_
    | refine W_opsnil ?_
    | refine W_pure TOk (by rfl) (by first | trivial | (simp only [okI, and_true, true_and, and_self] <;> omega)) ?_
    | refine W_on (by rfl) (by rfl) (by rfl) ?_
    | refine W_off (by rfl) (by rfl) (by rfl) (by rfl) (by rfl) ?_
    | refine W_offU (by rfl) (by rfl) (by rfl) (by rfl) ?_
    | refine W_cond_t (by rfl) ?_
    | refine W_cond_f (by rfl) ?_
    | refine W_load_box 0 TOk (by rfl) (by rfl) (by rfl) (by rfl) (by rfl) ?_
    | refine W_load_boxN 0 TOk (by rfl) (by rfl) (by rfl) (by rfl) (by rfl) ?_
    | (refine W_store_box 0 TOk (by rfl) (by rfl) (by rfl) (by rfl) (by rfl) (by rfl) ?_; dsimp only [setL, putL, vcells])
  refine W_cond_d (by rfl) (fun hbig => ?_) (fun hfit => ?_)
  · repeat first
      | refine W_seq ?_
      | refine W_skip ?_
      | refine W_block ?_
      | refine W_blk ?_
      | refine W_exit (by rfl) ?_
      | refine W_region (by rfl) ?_
      | refine W_opsnil ?_
      | refine W_pure TOk (by rfl) (by first | trivial | (simp only [okI, and_true, true_and, and_self] <;> omega)) ?_
      | refine W_on (by rfl) (by rfl) (by rfl) ?_
      | refine W_off (by rfl) (by rfl) (by rfl) (by rfl) (by rfl) ?_
      | refine W_offU (by rfl) (by rfl) (by rfl) (by rfl) ?_
      | refine W_cond_t (by rfl) ?_
      | refine W_cond_f (by rfl) ?_
      | refine W_load_box 0 TOk (by rfl) (by rfl) (by rfl) (by rfl) (by rfl) ?_
      | refine W_load_boxN 0 TOk (by rfl) (by rfl) (by rfl) (by rfl) (by rfl) ?_
      | (refine W_store_box 0 TOk (by rfl) (by rfl) (by rfl) (by rfl) (by rfl) (by rfl) ?_; dsimp only [setL, putL, vcells])
    exact W_retT (vs := [_]) ⟨rfl, trivial⟩ (Ent.text_in (tb, A, c, ss) h1 Lf) (.inl ⟨by omega, rfl, rfl⟩)
  · repeat first
      | refine W_seq ?_
      | refine W_skip ?_
      | refine W_block ?_
      | refine W_blk ?_
      | refine W_exit (by rfl) ?_
      | refine W_region (by rfl) ?_
      | refine W_opsnil ?_
      | refine W_pure TOk (by rfl) (by first | trivial | (simp only [okI, and_true, true_and, and_self] <;> omega)) ?_
      | refine W_on (by rfl) (by rfl) (by rfl) ?_
      | refine W_off (by rfl) (by rfl) (by rfl) (by rfl) (by rfl) ?_
      | refine W_offU (by rfl) (by rfl) (by rfl) (by rfl) ?_
      | refine W_cond_t (by rfl) ?_
      | refine W_cond_f (by rfl) ?_
      | refine W_load_box 0 TOk (by rfl) (by rfl) (by rfl) (by rfl) (by rfl) ?_
      | refine W_load_boxN 0 TOk (by rfl) (by rfl) (by rfl) (by rfl) (by rfl) ?_
      | (refine W_store_box 0 TOk (by rfl) (by rfl) (by rfl) (by rfl) (by rfl) (by rfl) ?_; dsimp only [setL, putL, vcells])
    refine W_pick 1 (by rfl) ?_
    refine W_turn _ (by rfl) Try.call187 (by rfl) (fun w1 hw => pDelete_c _ w1 tb x m a n _ hw.le hw.hp ha hx hm) ?_
    rintro _ _ ⟨rfl, rfl⟩
    have hdl : (x.take a ++ x.drop (a + n)).length = x.length - n := by simp; omega
    repeat first
      | refine W_seq ?_
      | refine W_skip ?_
      | refine W_block ?_
      | refine W_blk ?_
      | refine W_exit (by rfl) ?_
      | refine W_region (by rfl) ?_
      | refine W_opsnil ?_
      | refine W_pure TOk (by rfl) (by first | trivial | (simp only [okI, and_true, true_and, and_self] <;> omega)) ?_
      | refine W_on (by rfl) (by rfl) (by rfl) ?_
      | refine W_off (by rfl) (by rfl) (by rfl) (by rfl) (by rfl) ?_
      | refine W_offU (by rfl) (by rfl) (by rfl) (by rfl) ?_
      | refine W_cond_t (by rfl) ?_
      | refine W_cond_f (by rfl) ?_
      | refine W_load_box 0 TOk (by rfl) (by rfl) (by rfl) (by rfl) (by rfl) ?_
      | refine W_load_box 1 TOk (by rfl) (by rfl) (by rfl) (by rfl) (by rfl) ?_
      | refine W_load_boxN 0 TOk (by rfl) (by rfl) (by rfl) (by rfl) (by rfl) ?_
      | refine W_load_boxN 1 TOk (by rfl) (by rfl) (by rfl) (by rfl) (by rfl) ?_
      | (refine W_store_box 0 TOk (by rfl) (by rfl) (by rfl) (by rfl) (by rfl) (by rfl) ?_; dsimp only [setL, putL, vcells])
      | (refine W_store_box 1 TOk (by rfl) (by rfl) (by rfl) (by rfl) (by rfl) (by rfl) ?_; dsimp only [setL, putL, vcells])
    refine W_turn _ (by rfl) Try.call188 (by rfl) (fun w1 hw => pInsert_c _ w1 tb (x.take a ++ x.drop (a + n)) m a A0 c0 l _ hw.le hw.hp (hr.step hw.below (Ent.drop2 _ _ _)) (by omega) (by omega) hm) ?_
    rintro _ _ ⟨rfl, rfl⟩
    have hx' : (x.take a ++ x.drop (a + n)).take a ++ l ++ (x.take a ++ x.drop (a + n)).drop a = chg x l a n := by
      unfold chg
      have e : (x.take a).length = a := by rw [List.length_take]; omega
      rw [List.take_append_of_le_length (by omega), List.take_of_length_le (by omega), List.drop_append, List.drop_of_length_le (by omega), e, Nat.sub_self, List.drop_zero, List.nil_append]
    rw [hx']
    obtain ⟨i, ci, hi, hci, hai⟩ := in_line x (n := a) (by omega)
    obtain ⟨j, cj, hj, hcj, haj⟩ := in_line x (n := a + n) (by omega)
    obtain ⟨hij, hch, hK1, hK2⟩ := lens_change (l := l) hi hj hci hcj hai haj
    have hf1 : findS ss.flatten (a : Int) = ((i : Int), (ci : Int)) := by rw [hfl, hai]; exact find_lens hi hci
    have hf2 : findS ss.flatten ((a : Int) + (n : Int)) = ((j : Int), (cj : Int)) := by
      rw [hfl, show (a : Int) + (n : Int) = ((beg x j + cj : Nat) : Int) by omega]; exact find_lens hj hcj
    have hsi := siz_le hi
    have hsj := siz_le hj
    have hbm := beg_mono x hij
    repeat first
      | refine W_seq ?_
      | refine W_skip ?_
      | refine W_block ?_
      | refine W_blk ?_
      | refine W_exit (by rfl) ?_
      | refine W_region (by rfl) ?_
      | refine W_opsnil ?_
      | refine W_pure TOk (by rfl) (by first | trivial | (simp only [okI, and_true, true_and, and_self] <;> omega)) ?_
      | refine W_on (by rfl) (by rfl) (by rfl) ?_
      | refine W_off (by rfl) (by rfl) (by rfl) (by rfl) (by rfl) ?_
      | refine W_offU (by rfl) (by rfl) (by rfl) (by rfl) ?_
      | refine W_cond_t (by rfl) ?_
      | refine W_cond_f (by rfl) ?_
      | refine W_load_box 0 TOk (by rfl) (by rfl) (by rfl) (by rfl) (by rfl) ?_
      | refine W_load_box 1 TOk (by rfl) (by rfl) (by rfl) (by rfl) (by rfl) ?_
      | refine W_load_boxN 0 TOk (by rfl) (by rfl) (by rfl) (by rfl) (by rfl) ?_
      | refine W_load_boxN 1 TOk (by rfl) (by rfl) (by rfl) (by rfl) (by rfl) ?_
      | (refine W_store_box 0 TOk (by rfl) (by rfl) (by rfl) (by rfl) (by rfl) (by rfl) ?_; dsimp only [setL, putL, vcells])
      | (refine W_store_box 1 TOk (by rfl) (by rfl) (by rfl) (by rfl) (by rfl) (by rfl) ?_; dsimp only [setL, putL, vcells])
    refine W_callV (by rfl) Try.call109 (by rfl) (fun w1 hw => find_c w1 b A c ss a (box_cell 1 hw.hp rfl) (blocksAt 2 hw.hp rfl) hok (by omega) (by omega)) ?_
    rw [hf1]
    repeat first
      | refine W_seq ?_
      | refine W_skip ?_
      | refine W_block ?_
      | refine W_blk ?_
      | refine W_exit (by rfl) ?_
      | refine W_region (by rfl) ?_
      | refine W_opsnil ?_
      | refine W_pure TOk (by rfl) (by first | trivial | (simp only [okI, and_true, true_and, and_self] <;> omega)) ?_
      | refine W_on (by rfl) (by rfl) (by rfl) ?_
      | refine W_off (by rfl) (by rfl) (by rfl) (by rfl) (by rfl) ?_
      | refine W_offU (by rfl) (by rfl) (by rfl) (by rfl) ?_
      | refine W_cond_t (by rfl) ?_
      | refine W_cond_f (by rfl) ?_
      | refine W_load_box 0 TOk (by rfl) (by rfl) (by rfl) (by rfl) (by rfl) ?_
      | refine W_load_box 1 TOk (by rfl) (by rfl) (by rfl) (by rfl) (by rfl) ?_
      | refine W_load_boxN 0 TOk (by rfl) (by rfl) (by rfl) (by rfl) (by rfl) ?_
      | refine W_load_boxN 1 TOk (by rfl) (by rfl) (by rfl) (by rfl) (by rfl) ?_
      | (refine W_store_box 0 TOk (by rfl) (by rfl) (by rfl) (by rfl) (by rfl) (by rfl) ?_; dsimp only [setL, putL, vcells])
      | (refine W_store_box 1 TOk (by rfl) (by rfl) (by rfl) (by rfl) (by rfl) (by rfl) ?_; dsimp only [setL, putL, vcells])
    refine W_callV (by rfl) Try.call109 (by rfl) (fun w1 hw => find_c w1 b A c ss (a + n) (box_cell 1 hw.hp rfl) (blocksAt 2 hw.hp rfl) hok (by omega) (by omega)) ?_
    rw [hf2]
    repeat first
      | refine W_seq ?_
      | refine W_skip ?_
      | refine W_block ?_
      | refine W_blk ?_
      | refine W_exit (by rfl) ?_
      | refine W_region (by rfl) ?_
      | refine W_opsnil ?_
      | refine W_pure TOk (by rfl) (by first | trivial | (simp only [okI, and_true, true_and, and_self] <;> omega)) ?_
      | refine W_on (by rfl) (by rfl) (by rfl) ?_
      | refine W_off (by rfl) (by rfl) (by rfl) (by rfl) (by rfl) ?_
      | refine W_offU (by rfl) (by rfl) (by rfl) (by rfl) ?_
      | refine W_cond_t (by rfl) ?_
      | refine W_cond_f (by rfl) ?_
      | refine W_load_box 0 TOk (by rfl) (by rfl) (by rfl) (by rfl) (by rfl) ?_
      | refine W_load_box 1 TOk (by rfl) (by rfl) (by rfl) (by rfl) (by rfl) ?_
      | refine W_load_boxN 0 TOk (by rfl) (by rfl) (by rfl) (by rfl) (by rfl) ?_
      | refine W_load_boxN 1 TOk (by rfl) (by rfl) (by rfl) (by rfl) (by rfl) ?_
      | (refine W_store_box 0 TOk (by rfl) (by rfl) (by rfl) (by rfl) (by rfl) (by rfl) ?_; dsimp only [setL, putL, vcells])
      | (refine W_store_box 1 TOk (by rfl) (by rfl) (by rfl) (by rfl) (by rfl) (by rfl) ?_; dsimp only [setL, putL, vcells])
    refine W_callV (by rfl) Try.call110 (by rfl) (fun w1 hw => start_c w1 b A c ss i (box_cell 1 hw.hp rfl) (blocksAt 2 hw.hp rfl) hok (by omega) (by omega)) ?_
    rw [hfl, beg_start, rd_siz]
    repeat first
      | refine W_seq ?_
      | refine W_skip ?_
      | refine W_block ?_
      | refine W_blk ?_
      | refine W_exit (by rfl) ?_
      | refine W_region (by rfl) ?_
      | refine W_opsnil ?_
      | refine W_pure TOk (by rfl) (by first | trivial | (simp only [okI, and_true, true_and, and_self] <;> omega)) ?_
      | refine W_on (by rfl) (by rfl) (by rfl) ?_
      | refine W_off (by rfl) (by rfl) (by rfl) (by rfl) (by rfl) ?_
      | refine W_offU (by rfl) (by rfl) (by rfl) (by rfl) ?_
      | refine W_cond_t (by rfl) ?_
      | refine W_cond_f (by rfl) ?_
      | refine W_load_box 0 TOk (by rfl) (by rfl) (by rfl) (by rfl) (by rfl) ?_
      | refine W_load_box 1 TOk (by rfl) (by rfl) (by rfl) (by rfl) (by rfl) ?_
      | refine W_load_boxN 0 TOk (by rfl) (by rfl) (by rfl) (by rfl) (by rfl) ?_
      | refine W_load_boxN 1 TOk (by rfl) (by rfl) (by rfl) (by rfl) (by rfl) ?_
      | (refine W_store_box 0 TOk (by rfl) (by rfl) (by rfl) (by rfl) (by rfl) (by rfl) ?_; dsimp only [setL, putL, vcells])
      | (refine W_store_box 1 TOk (by rfl) (by rfl) (by rfl) (by rfl) (by rfl) (by rfl) ?_; dsimp only [setL, putL, vcells])
    refine W_callV (by rfl) Try.call110 (by rfl) (fun w1 hw => start_c w1 b A c ss j (box_cell 1 hw.hp rfl) (blocksAt 2 hw.hp rfl) hok (by omega) (by omega)) ?_
    rw [hfl, beg_start, rd_siz]
    repeat first
      | refine W_seq ?_
      | refine W_skip ?_
      | refine W_block ?_
      | refine W_blk ?_
      | refine W_exit (by rfl) ?_
      | refine W_region (by rfl) ?_
      | refine W_opsnil ?_
      | refine W_pure TOk (by rfl) (by first | trivial | (simp only [okI, and_true, true_and, and_self] <;> omega)) ?_
      | refine W_on (by rfl) (by rfl) (by rfl) ?_
      | refine W_off (by rfl) (by rfl) (by rfl) (by rfl) (by rfl) ?_
      | refine W_offU (by rfl) (by rfl) (by rfl) (by rfl) ?_
      | refine W_cond_t (by rfl) ?_
      | refine W_cond_f (by rfl) ?_
      | refine W_load_box 0 TOk (by rfl) (by rfl) (by rfl) (by rfl) (by rfl) ?_
      | refine W_load_box 1 TOk (by rfl) (by rfl) (by rfl) (by rfl) (by rfl) ?_
      | refine W_load_boxN 0 TOk (by rfl) (by rfl) (by rfl) (by rfl) (by rfl) ?_
      | refine W_load_boxN 1 TOk (by rfl) (by rfl) (by rfl) (by rfl) (by rfl) ?_
      | (refine W_store_box 0 TOk (by rfl) (by rfl) (by rfl) (by rfl) (by rfl) (by rfl) ?_; dsimp only [setL, putL, vcells])
      | (refine W_store_box 1 TOk (by rfl) (by rfl) (by rfl) (by rfl) (by rfl) (by rfl) ?_; dsimp only [setL, putL, vcells])
    obtain ⟨K, hK⟩ : ∃ K : Nat, K = beg x j + siz x j - beg x i + l.length - n := ⟨_, rfl⟩
    have hKi : (beg x j : Int) + (siz x j : Int) - (beg x i : Int) + (l.length : Int) - (n : Int) = (K : Int) := by omega
    rw [hKi]
    change beg x i + (beg x j + siz x j - beg x i + l.length - n) ≤ (chg x l a n).length at hK1
    change lens (chg x l a n) = (lens x).take i ++ lens (((chg x l a n).drop (beg x i)).take (beg x j + siz x j - beg x i + l.length - n)) ++ (lens x).drop (j + 1) at hch
    rw [← hK] at hK1 hch
    refine W_call _ (by rfl) Try.call139 (by rfl) (fun w1 hw => pslice_c w1 tb (chg x l a n) (beg x i) K (tabAt 0 hw.hp rfl) hK1) ?_
    rintro _ _ ⟨A5, c5, rfl, rfl⟩
    dsimp only [List.cons_append, List.nil_append]
    have hrl : (((chg x l a n).drop (beg x i)).take K).length = K := cut_eq hK1
    generalize ((chg x l a n).drop (beg x i)).take K = row at *
    subst hrl
    repeat first
      | refine W_seq ?_
      | refine W_skip ?_
      | refine W_block ?_
      | refine W_blk ?_
      | refine W_exit (by rfl) ?_
      | refine W_region (by rfl) ?_
      | refine W_opsnil ?_
      | refine W_pure TOk (by rfl) (by first | trivial | (simp only [okI, and_true, true_and, and_self] <;> omega)) ?_
      | refine W_on (by rfl) (by rfl) (by rfl) ?_
      | refine W_off (by rfl) (by rfl) (by rfl) (by rfl) (by rfl) ?_
      | refine W_offU (by rfl) (by rfl) (by rfl) (by rfl) ?_
      | refine W_cond_t (by rfl) ?_
      | refine W_cond_f (by rfl) ?_
      | refine W_load_box 0 TOk (by rfl) (by rfl) (by rfl) (by rfl) (by rfl) ?_
      | refine W_load_box 1 TOk (by rfl) (by rfl) (by rfl) (by rfl) (by rfl) ?_
      | refine W_load_box 2 TOk (by rfl) (by rfl) (by rfl) (by rfl) (by rfl) ?_
      | refine W_load_boxN 0 TOk (by rfl) (by rfl) (by rfl) (by rfl) (by rfl) ?_
      | refine W_load_boxN 1 TOk (by rfl) (by rfl) (by rfl) (by rfl) (by rfl) ?_
      | refine W_load_boxN 2 TOk (by rfl) (by rfl) (by rfl) (by rfl) (by rfl) ?_
      | (refine W_store_box 0 TOk (by rfl) (by rfl) (by rfl) (by rfl) (by rfl) (by rfl) ?_; dsimp only [setL, putL, vcells])
      | (refine W_store_box 1 TOk (by rfl) (by rfl) (by rfl) (by rfl) (by rfl) (by rfl) ?_; dsimp only [setL, putL, vcells])
      | (refine W_store_box 2 TOk (by rfl) (by rfl) (by rfl) (by rfl) (by rfl) (by rfl) ?_; dsimp only [setL, putL, vcells])
    refine W_pick 3 (by rfl) (W_pick 3 (by rfl) ?_)
    rw [show (j : Int) + 1 = ((j + 1 : Nat) : Int) by omega]
    have hcx : (chg x l a n).length = x.length + l.length - n := by unfold chg; simp; omega
    refine W_turn _ (by rfl) Try.call189 (by rfl) (fun w1 hw => set_c _ w1 b _ A c ss (lens x).length i (j + 1) A5 c5 row _ hw.le hw.hp (Reads.own 0 rfl) hok h1.ne (by rw [hfl]) (by omega) (by rw [hfl]; omega) (by rw [hfl]; omega) (by rw [hfl, bsum_lens]; omega) (by omega)) ?_
    rintro _ _ ⟨rfl, A9, c9, ss9, hf9, hn9, rfl⟩
    rw [hfl, ← hch] at hf9
    rw [hfl, ← hch]
    repeat first
      | refine W_seq ?_
      | refine W_skip ?_
      | refine W_block ?_
      | refine W_blk ?_
      | refine W_exit (by rfl) ?_
      | refine W_region (by rfl) ?_
      | refine W_opsnil ?_
      | refine W_pure TOk (by rfl) (by first | trivial | (simp only [okI, and_true, true_and, and_self] <;> omega)) ?_
      | refine W_on (by rfl) (by rfl) (by rfl) ?_
      | refine W_off (by rfl) (by rfl) (by rfl) (by rfl) (by rfl) ?_
      | refine W_offU (by rfl) (by rfl) (by rfl) (by rfl) ?_
      | refine W_cond_t (by rfl) ?_
      | refine W_cond_f (by rfl) ?_
    refine W_retT (vs := [_]) ⟨rfl, trivial⟩ ?_ (.inr ⟨by omega, rfl, rfl⟩)
    refine Ent.trans ?_ (Ent.text_in (tb, A9, c9, ss9) ⟨hf9, hn9⟩ Lf)
    exact Ent.cons _ ((Ent.cons _ (Ent.drop1 _ _)).trans (Ent.swap _ _ _))
end Go.Proofs.Ytdfibmbedjpcgaa
