/- The text's reading functions. -/
import Derived.Test.YtdfibmbedjpcgaaR8
set_option linter.unusedVariables false
set_option linter.unusedSimpArgs false
namespace Go.Proofs.Ytdfibmbedjpcgaa
open Go Go.RowKit Eng Ls
attribute [local irreducible] Eng.W

/-- Where a line begins. -/
def startS (x : List Int) (i : Int) : Int := bsum ((lens x).take i.toNat)
def pos (l c : Int) : Value := .agg #[.int .i64 l, .int .i64 c]
def offS (x : List Int) (l c : Int) : Int × Int := if 0 ≤ l ∧ l < (lens x).length ∧ 0 ≤ c ∧ c ≤ rd (lens x) l then (startS x l + c, 0) else (0, 2)
def placeS (x : List Int) (n : Int) : (Int × Int) × Int := if 0 ≤ n ∧ n ≤ x.length then (findS (lens x) n, 0) else ((0, 0), 2)
theorem startS_le (x : List Int) (i : Int) : 0 ≤ startS x i ∧ startS x i ≤ x.length + 1 := by
  have := bsum_take_le (a := lens x) (fun n hn => (lens_mem n hn).1) i.toNat
  rw [bsum_lens] at this
  exact this
theorem rd_lens (x : List Int) (i : Int) (h0 : 0 ≤ i) (h1 : i < (lens x).length) : 0 ≤ rd (lens x) i ∧ startS x i + rd (lens x) i ≤ x.length := by
  have h2 := rd_get (xs := lens x) h0 h1
  have h3 := (lens_mem _ (List.mem_of_getElem? h2)).1
  refine ⟨h3, ?_⟩
  have h4 := bsum_take_le (a := lens x) (fun n hn => (lens_mem n hn).1) (i.toNat + 1)
  rw [bsum_lens, take_snoc h2, bsum_snoc] at h4
  unfold startS
  omega

set_option maxHeartbeats 400000 in
theorem Count_no (w : World) : Val Try.prog 43 [.pointer none] w (.int .i64 0) := by
  refine enterF Try.func43 rfl Try.ntmps43 rfl rfl ?_
  repeat first
    | refine W_seq ?_
    | refine W_skip ?_
    | refine W_block ?_
    | refine W_blk ?_
    | refine W_exit (by rfl) ?_
    | refine W_region (by rfl) ?_
    | refine W_opsnil ?_
    | refine W_pure TOk (by rfl) (by first | trivial | (simp only [okI, and_true, true_and, and_self] <;> omega)) ?_
    | refine W_on (by rfl) (by rfl) (by rfl) ?_
    | refine W_off (by rfl) (by rfl) (by rfl) (by rfl) (by rfl) ?_
    | refine W_offU (by rfl) (by rfl) (by rfl) (by rfl) ?_
    | refine W_cond_t (by rfl) ?_
    | refine W_cond_f (by rfl) ?_
  exact W_retF (vs := [_]) ⟨rfl, trivial⟩ (Ent.refl _) ⟨rfl, rfl⟩
set_option maxHeartbeats 400000 in
theorem Count_c (w : World) (b : Nat) (x : List Int) (h : TextAt w b x) : Val Try.prog 43 [.pointer (some ⟨b, 0, none⟩)] w (.int .i64 ((lens x).length : Nat)) := by
  obtain ⟨tb, A, c, ss, h1, h2, h3, h4, h5⟩ := h.ex
  refine enterF Try.func43 rfl Try.ntmps43 rfl rfl ?_
  repeat first
    | refine W_seq ?_
    | refine W_skip ?_
    | refine W_block ?_
    | refine W_blk ?_
    | refine W_exit (by rfl) ?_
    | refine W_region (by rfl) ?_
    | refine W_opsnil ?_
    | refine W_pure TOk (by rfl) (by first | trivial | (simp only [okI, and_true, true_and, and_self] <;> omega)) ?_
    | refine W_on (by rfl) (by rfl) (by rfl) ?_
    | refine W_off (by rfl) (by rfl) (by rfl) (by rfl) (by rfl) ?_
    | refine W_offU (by rfl) (by rfl) (by rfl) (by rfl) ?_
    | refine W_cond_t (by rfl) ?_
    | refine W_cond_f (by rfl) ?_
  refine W_load TOk (by rfl) (by rfl) (by rfl) (fun w1 hw => ⟨_, rfl, (h2.below hw.below) 2 _ rfl⟩) ?_
  repeat first
    | refine W_seq ?_
    | refine W_skip ?_
    | refine W_block ?_
    | refine W_blk ?_
    | refine W_exit (by rfl) ?_
    | refine W_region (by rfl) ?_
    | refine W_opsnil ?_
    | refine W_pure TOk (by rfl) (by first | trivial | (simp only [okI, and_true, true_and, and_self] <;> omega)) ?_
    | refine W_on (by rfl) (by rfl) (by rfl) ?_
    | refine W_off (by rfl) (by rfl) (by rfl) (by rfl) (by rfl) ?_
    | refine W_offU (by rfl) (by rfl) (by rfl) (by rfl) ?_
    | refine W_cond_t (by rfl) ?_
    | refine W_cond_f (by rfl) ?_
  exact W_retF (vs := [_]) ⟨rfl, trivial⟩ (Ent.refl _) ⟨rfl, rfl⟩
set_option maxHeartbeats 400000 in
theorem TRunes_no (w : World) : Val Try.prog 40 [.pointer none] w (.int .i64 0) := by
  refine enterF Try.func40 rfl Try.ntmps40 rfl rfl ?_
  repeat first
    | refine W_seq ?_
    | refine W_skip ?_
    | refine W_block ?_
    | refine W_blk ?_
    | refine W_exit (by rfl) ?_
    | refine W_region (by rfl) ?_
    | refine W_opsnil ?_
    | refine W_pure TOk (by rfl) (by first | trivial | (simp only [okI, and_true, true_and, and_self] <;> omega)) ?_
    | refine W_on (by rfl) (by rfl) (by rfl) ?_
    | refine W_off (by rfl) (by rfl) (by rfl) (by rfl) (by rfl) ?_
    | refine W_offU (by rfl) (by rfl) (by rfl) (by rfl) ?_
    | refine W_cond_t (by rfl) ?_
    | refine W_cond_f (by rfl) ?_
  exact W_retF (vs := [_]) ⟨rfl, trivial⟩ (Ent.refl _) ⟨rfl, rfl⟩
set_option maxHeartbeats 400000 in
theorem TRunes_c (w : World) (b : Nat) (x : List Int) (h : TextAt w b x) : Val Try.prog 40 [.pointer (some ⟨b, 0, none⟩)] w (.int .i64 (x.length : Nat)) := by
  obtain ⟨tb, A, c, ss, h1, h2, h3, h4, h5⟩ := h.ex
  refine enterF Try.func40 rfl Try.ntmps40 rfl rfl ?_
  repeat first
    | refine W_seq ?_
    | refine W_skip ?_
    | refine W_block ?_
    | refine W_blk ?_
    | refine W_exit (by rfl) ?_
    | refine W_region (by rfl) ?_
    | refine W_opsnil ?_
    | refine W_pure TOk (by rfl) (by first | trivial | (simp only [okI, and_true, true_and, and_self] <;> omega)) ?_
    | refine W_on (by rfl) (by rfl) (by rfl) ?_
    | refine W_off (by rfl) (by rfl) (by rfl) (by rfl) (by rfl) ?_
    | refine W_offU (by rfl) (by rfl) (by rfl) (by rfl) ?_
    | refine W_cond_t (by rfl) ?_
    | refine W_cond_f (by rfl) ?_
  refine W_load TOk (by rfl) (by rfl) (by rfl) (fun w1 hw => ⟨_, rfl, (h2.below hw.below) 0 _ rfl⟩) ?_
  repeat first
    | refine W_seq ?_
    | refine W_skip ?_
    | refine W_block ?_
    | refine W_blk ?_
    | refine W_exit (by rfl) ?_
    | refine W_region (by rfl) ?_
    | refine W_opsnil ?_
    | refine W_pure TOk (by rfl) (by first | trivial | (simp only [okI, and_true, true_and, and_self] <;> omega)) ?_
    | refine W_on (by rfl) (by rfl) (by rfl) ?_
    | refine W_off (by rfl) (by rfl) (by rfl) (by rfl) (by rfl) ?_
    | refine W_offU (by rfl) (by rfl) (by rfl) (by rfl) ?_
    | refine W_cond_t (by rfl) ?_
    | refine W_cond_f (by rfl) ?_
  refine W_callV (by rfl) Try.call108 (by rfl) (fun w1 hw => len_c w1 tb x (h3.below hw.below)) ?_
  repeat first
    | refine W_seq ?_
    | refine W_skip ?_
    | refine W_block ?_
    | refine W_blk ?_
    | refine W_exit (by rfl) ?_
    | refine W_region (by rfl) ?_
    | refine W_opsnil ?_
    | refine W_pure TOk (by rfl) (by first | trivial | (simp only [okI, and_true, true_and, and_self] <;> omega)) ?_
    | refine W_on (by rfl) (by rfl) (by rfl) ?_
    | refine W_off (by rfl) (by rfl) (by rfl) (by rfl) (by rfl) ?_
    | refine W_offU (by rfl) (by rfl) (by rfl) (by rfl) ?_
    | refine W_cond_t (by rfl) ?_
    | refine W_cond_f (by rfl) ?_
  exact W_retF (vs := [_]) ⟨rfl, trivial⟩ (Ent.refl _) ⟨rfl, rfl⟩
set_option maxHeartbeats 400000 in
theorem Place_no (w : World) (n : Int) : Val Try.prog 41 [.pointer none, .int .i64 n] w (.tuple #[pos 0 0, .int .i64 1]) := by
  refine enterF Try.func41 rfl Try.ntmps41 rfl rfl ?_
  repeat first
    | refine W_seq ?_
    | refine W_skip ?_
    | refine W_block ?_
    | refine W_blk ?_
    | refine W_exit (by rfl) ?_
    | refine W_region (by rfl) ?_
    | refine W_opsnil ?_
    | refine W_pure TOk (by rfl) (by first | trivial | (simp only [okI, and_true, true_and, and_self] <;> omega)) ?_
    | refine W_on (by rfl) (by rfl) (by rfl) ?_
    | refine W_off (by rfl) (by rfl) (by rfl) (by rfl) (by rfl) ?_
    | refine W_offU (by rfl) (by rfl) (by rfl) (by rfl) ?_
    | refine W_cond_t (by rfl) ?_
    | refine W_cond_f (by rfl) ?_
  refine W_alloc (cs := [_, _]) TOk (by rfl) (by rfl) (fun b2 => ?_)
  repeat first
    | refine W_seq ?_
    | refine W_skip ?_
    | refine W_block ?_
    | refine W_blk ?_
    | refine W_exit (by rfl) ?_
    | refine W_region (by rfl) ?_
    | refine W_opsnil ?_
    | refine W_pure TOk (by rfl) (by first | trivial | (simp only [okI, and_true, true_and, and_self] <;> omega)) ?_
    | refine W_on (by rfl) (by rfl) (by rfl) ?_
    | refine W_off (by rfl) (by rfl) (by rfl) (by rfl) (by rfl) ?_
    | refine W_offU (by rfl) (by rfl) (by rfl) (by rfl) ?_
    | refine W_cond_t (by rfl) ?_
    | refine W_cond_f (by rfl) ?_
    | refine W_load_box 0 TOk (by rfl) (by rfl) (by rfl) (by rfl) (by rfl) ?_
    | refine W_load_box 1 TOk (by rfl) (by rfl) (by rfl) (by rfl) (by rfl) ?_
    | refine W_load_boxN 0 TOk (by rfl) (by rfl) (by rfl) (by rfl) (by rfl) ?_
    | refine W_load_boxN 1 TOk (by rfl) (by rfl) (by rfl) (by rfl) (by rfl) ?_
    | (refine W_store_box 0 TOk (by rfl) (by rfl) (by rfl) (by rfl) (by rfl) (by rfl) ?_; dsimp only [setL, putL, vcells])
    | (refine W_store_box 1 TOk (by rfl) (by rfl) (by rfl) (by rfl) (by rfl) (by rfl) ?_; dsimp only [setL, putL, vcells])
  refine W_retF (vs := [_, _]) ⟨rv_box 0 TOk rfl rfl rfl, rfl, trivial⟩ (Ent.nil _) ⟨rfl, rfl⟩
set_option maxHeartbeats 1000000 in
theorem Place_c (w : World) (b : Nat) (x : List Int) (n : Int) (h : TextAt w b x) : Val Try.prog 41 [.pointer (some ⟨b, 0, none⟩), .int .i64 n] w (.tuple #[pos (placeS x n).1.1 (placeS x n).1.2, .int .i64 (placeS x n).2]) := by
  have hbig := h.big
  obtain ⟨tb, A, c, ss, h1, h2, h3, h4, h5⟩ := h.ex
  refine enterF Try.func41 rfl Try.ntmps41 rfl rfl ?_
  repeat first
    | refine W_seq ?_
    | refine W_skip ?_
    | refine W_block ?_
    | refine W_blk ?_
    | refine W_exit (by rfl) ?_
    | refine W_region (by rfl) ?_
    | refine W_opsnil ?_
    | refine W_pure TOk (by rfl) (by first | trivial | (simp only [okI, and_true, true_and, and_self] <;> omega)) ?_
    | refine W_on (by rfl) (by rfl) (by rfl) ?_
    | refine W_off (by rfl) (by rfl) (by rfl) (by rfl) (by rfl) ?_
    | refine W_offU (by rfl) (by rfl) (by rfl) (by rfl) ?_
    | refine W_cond_t (by rfl) ?_
    | refine W_cond_f (by rfl) ?_
  refine W_alloc (cs := [_, _]) TOk (by rfl) (by rfl) (fun b2 => ?_)
  repeat first
    | refine W_seq ?_
    | refine W_skip ?_
    | refine W_block ?_
    | refine W_blk ?_
    | refine W_exit (by rfl) ?_
    | refine W_region (by rfl) ?_
    | refine W_opsnil ?_
    | refine W_pure TOk (by rfl) (by first | trivial | (simp only [okI, and_true, true_and, and_self] <;> omega)) ?_
    | refine W_on (by rfl) (by rfl) (by rfl) ?_
    | refine W_off (by rfl) (by rfl) (by rfl) (by rfl) (by rfl) ?_
    | refine W_offU (by rfl) (by rfl) (by rfl) (by rfl) ?_
    | refine W_cond_t (by rfl) ?_
    | refine W_cond_f (by rfl) ?_
    | refine W_load_box 0 TOk (by rfl) (by rfl) (by rfl) (by rfl) (by rfl) ?_
    | refine W_load_box 1 TOk (by rfl) (by rfl) (by rfl) (by rfl) (by rfl) ?_
    | refine W_load_boxN 0 TOk (by rfl) (by rfl) (by rfl) (by rfl) (by rfl) ?_
    | refine W_load_boxN 1 TOk (by rfl) (by rfl) (by rfl) (by rfl) (by rfl) ?_
    | (refine W_store_box 0 TOk (by rfl) (by rfl) (by rfl) (by rfl) (by rfl) (by rfl) ?_; dsimp only [setL, putL, vcells])
    | (refine W_store_box 1 TOk (by rfl) (by rfl) (by rfl) (by rfl) (by rfl) (by rfl) ?_; dsimp only [setL, putL, vcells])
  refine W_dec 13 (by rfl) (fun hd => ?_) (fun hd => ?_)
  · have hn := of_decide_eq_true hd
    repeat first
      | refine W_seq ?_
      | refine W_skip ?_
      | refine W_block ?_
      | refine W_blk ?_
      | refine W_exit (by rfl) ?_
      | refine W_region (by rfl) ?_
      | refine W_opsnil ?_
      | refine W_pure TOk (by rfl) (by first | trivial | (simp only [okI, and_true, true_and, and_self] <;> omega)) ?_
      | refine W_on (by rfl) (by rfl) (by rfl) ?_
      | refine W_off (by rfl) (by rfl) (by rfl) (by rfl) (by rfl) ?_
      | refine W_offU (by rfl) (by rfl) (by rfl) (by rfl) ?_
      | refine W_cond_t (by rfl) ?_
      | refine W_cond_f (by rfl) ?_
      | refine W_load_box 0 TOk (by rfl) (by rfl) (by rfl) (by rfl) (by rfl) ?_
      | refine W_load_box 1 TOk (by rfl) (by rfl) (by rfl) (by rfl) (by rfl) ?_
      | refine W_load_boxN 0 TOk (by rfl) (by rfl) (by rfl) (by rfl) (by rfl) ?_
      | refine W_load_boxN 1 TOk (by rfl) (by rfl) (by rfl) (by rfl) (by rfl) ?_
      | (refine W_store_box 0 TOk (by rfl) (by rfl) (by rfl) (by rfl) (by rfl) (by rfl) ?_; dsimp only [setL, putL, vcells])
      | (refine W_store_box 1 TOk (by rfl) (by rfl) (by rfl) (by rfl) (by rfl) (by rfl) ?_; dsimp only [setL, putL, vcells])
    refine W_retF (vs := [_, _]) ⟨rv_box 0 TOk rfl rfl rfl, rfl, trivial⟩ (Ent.nil _) ⟨?_, rfl⟩
    unfold placeS
    rw [if_neg (by omega)]
    rfl
  · have hn := of_decide_eq_false hd
    repeat first
      | refine W_seq ?_
      | refine W_skip ?_
      | refine W_block ?_
      | refine W_blk ?_
      | refine W_exit (by rfl) ?_
      | refine W_region (by rfl) ?_
      | refine W_opsnil ?_
      | refine W_pure TOk (by rfl) (by first | trivial | (simp only [okI, and_true, true_and, and_self] <;> omega)) ?_
      | refine W_on (by rfl) (by rfl) (by rfl) ?_
      | refine W_off (by rfl) (by rfl) (by rfl) (by rfl) (by rfl) ?_
      | refine W_offU (by rfl) (by rfl) (by rfl) (by rfl) ?_
      | refine W_cond_t (by rfl) ?_
      | refine W_cond_f (by rfl) ?_
      | refine W_load_box 0 TOk (by rfl) (by rfl) (by rfl) (by rfl) (by rfl) ?_
      | refine W_load_box 1 TOk (by rfl) (by rfl) (by rfl) (by rfl) (by rfl) ?_
      | refine W_load_boxN 0 TOk (by rfl) (by rfl) (by rfl) (by rfl) (by rfl) ?_
      | refine W_load_boxN 1 TOk (by rfl) (by rfl) (by rfl) (by rfl) (by rfl) ?_
      | (refine W_store_box 0 TOk (by rfl) (by rfl) (by rfl) (by rfl) (by rfl) (by rfl) ?_; dsimp only [setL, putL, vcells])
      | (refine W_store_box 1 TOk (by rfl) (by rfl) (by rfl) (by rfl) (by rfl) (by rfl) ?_; dsimp only [setL, putL, vcells])
    refine W_load TOk (by rfl) (by rfl) (by rfl) (fun w1 hw => ⟨_, rfl, (h2.below hw.below) 0 _ rfl⟩) ?_
    repeat first
      | refine W_seq ?_
      | refine W_skip ?_
      | refine W_block ?_
      | refine W_blk ?_
      | refine W_exit (by rfl) ?_
      | refine W_region (by rfl) ?_
      | refine W_opsnil ?_
      | refine W_pure TOk (by rfl) (by first | trivial | (simp only [okI, and_true, true_and, and_self] <;> omega)) ?_
      | refine W_on (by rfl) (by rfl) (by rfl) ?_
      | refine W_off (by rfl) (by rfl) (by rfl) (by rfl) (by rfl) ?_
      | refine W_offU (by rfl) (by rfl) (by rfl) (by rfl) ?_
      | refine W_cond_t (by rfl) ?_
      | refine W_cond_f (by rfl) ?_
      | refine W_load_box 0 TOk (by rfl) (by rfl) (by rfl) (by rfl) (by rfl) ?_
      | refine W_load_box 1 TOk (by rfl) (by rfl) (by rfl) (by rfl) (by rfl) ?_
      | refine W_load_boxN 0 TOk (by rfl) (by rfl) (by rfl) (by rfl) (by rfl) ?_
      | refine W_load_boxN 1 TOk (by rfl) (by rfl) (by rfl) (by rfl) (by rfl) ?_
      | (refine W_store_box 0 TOk (by rfl) (by rfl) (by rfl) (by rfl) (by rfl) (by rfl) ?_; dsimp only [setL, putL, vcells])
      | (refine W_store_box 1 TOk (by rfl) (by rfl) (by rfl) (by rfl) (by rfl) (by rfl) ?_; dsimp only [setL, putL, vcells])
    refine W_callV (by rfl) Try.call108 (by rfl) (fun w1 hw => len_c w1 tb x (h3.below hw.below)) ?_
    repeat first
      | refine W_seq ?_
      | refine W_skip ?_
      | refine W_block ?_
      | refine W_blk ?_
      | refine W_exit (by rfl) ?_
      | refine W_region (by rfl) ?_
      | refine W_opsnil ?_
      | refine W_pure TOk (by rfl) (by first | trivial | (simp only [okI, and_true, true_and, and_self] <;> omega)) ?_
      | refine W_on (by rfl) (by rfl) (by rfl) ?_
      | refine W_off (by rfl) (by rfl) (by rfl) (by rfl) (by rfl) ?_
      | refine W_offU (by rfl) (by rfl) (by rfl) (by rfl) ?_
      | refine W_cond_t (by rfl) ?_
      | refine W_cond_f (by rfl) ?_
      | refine W_load_box 0 TOk (by rfl) (by rfl) (by rfl) (by rfl) (by rfl) ?_
      | refine W_load_box 1 TOk (by rfl) (by rfl) (by rfl) (by rfl) (by rfl) ?_
      | refine W_load_boxN 0 TOk (by rfl) (by rfl) (by rfl) (by rfl) (by rfl) ?_
      | refine W_load_boxN 1 TOk (by rfl) (by rfl) (by rfl) (by rfl) (by rfl) ?_
      | (refine W_store_box 0 TOk (by rfl) (by rfl) (by rfl) (by rfl) (by rfl) (by rfl) ?_; dsimp only [setL, putL, vcells])
      | (refine W_store_box 1 TOk (by rfl) (by rfl) (by rfl) (by rfl) (by rfl) (by rfl) ?_; dsimp only [setL, putL, vcells])
    refine W_cond_d (by rfl) (fun hgt => ?_) (fun hle => ?_)
    · repeat first
        | refine W_seq ?_
        | refine W_skip ?_
        | refine W_block ?_
        | refine W_blk ?_
        | refine W_exit (by rfl) ?_
        | refine W_region (by rfl) ?_
        | refine W_opsnil ?_
        | refine W_pure TOk (by rfl) (by first | trivial | (simp only [okI, and_true, true_and, and_self] <;> omega)) ?_
        | refine W_on (by rfl) (by rfl) (by rfl) ?_
        | refine W_off (by rfl) (by rfl) (by rfl) (by rfl) (by rfl) ?_
        | refine W_offU (by rfl) (by rfl) (by rfl) (by rfl) ?_
        | refine W_cond_t (by rfl) ?_
        | refine W_cond_f (by rfl) ?_
        | refine W_load_box 0 TOk (by rfl) (by rfl) (by rfl) (by rfl) (by rfl) ?_
        | refine W_load_box 1 TOk (by rfl) (by rfl) (by rfl) (by rfl) (by rfl) ?_
        | refine W_load_boxN 0 TOk (by rfl) (by rfl) (by rfl) (by rfl) (by rfl) ?_
        | refine W_load_boxN 1 TOk (by rfl) (by rfl) (by rfl) (by rfl) (by rfl) ?_
        | (refine W_store_box 0 TOk (by rfl) (by rfl) (by rfl) (by rfl) (by rfl) (by rfl) ?_; dsimp only [setL, putL, vcells])
        | (refine W_store_box 1 TOk (by rfl) (by rfl) (by rfl) (by rfl) (by rfl) (by rfl) ?_; dsimp only [setL, putL, vcells])
      refine W_retF (vs := [_, _]) ⟨rv_box 0 TOk rfl rfl rfl, rfl, trivial⟩ (Ent.nil _) ⟨?_, rfl⟩
      unfold placeS
      rw [if_neg (by omega)]
      rfl
    · repeat first
        | refine W_seq ?_
        | refine W_skip ?_
        | refine W_block ?_
        | refine W_blk ?_
        | refine W_exit (by rfl) ?_
        | refine W_region (by rfl) ?_
        | refine W_opsnil ?_
        | refine W_pure TOk (by rfl) (by first | trivial | (simp only [okI, and_true, true_and, and_self] <;> omega)) ?_
        | refine W_on (by rfl) (by rfl) (by rfl) ?_
        | refine W_off (by rfl) (by rfl) (by rfl) (by rfl) (by rfl) ?_
        | refine W_offU (by rfl) (by rfl) (by rfl) (by rfl) ?_
        | refine W_cond_t (by rfl) ?_
        | refine W_cond_f (by rfl) ?_
        | refine W_load_box 0 TOk (by rfl) (by rfl) (by rfl) (by rfl) (by rfl) ?_
        | refine W_load_box 1 TOk (by rfl) (by rfl) (by rfl) (by rfl) (by rfl) ?_
        | refine W_load_boxN 0 TOk (by rfl) (by rfl) (by rfl) (by rfl) (by rfl) ?_
        | refine W_load_boxN 1 TOk (by rfl) (by rfl) (by rfl) (by rfl) (by rfl) ?_
        | (refine W_store_box 0 TOk (by rfl) (by rfl) (by rfl) (by rfl) (by rfl) (by rfl) ?_; dsimp only [setL, putL, vcells])
        | (refine W_store_box 1 TOk (by rfl) (by rfl) (by rfl) (by rfl) (by rfl) (by rfl) ?_; dsimp only [setL, putL, vcells])
      refine W_callV (by rfl) Try.call109 (by rfl) (fun w1 hw => find_c w1 b A c ss n ((h2.below hw.below) 1 _ rfl) (h4.below hw.below) (h1.ok hbig) (by omega) (by omega)) ?_
      repeat first
        | refine W_seq ?_
        | refine W_skip ?_
        | refine W_block ?_
        | refine W_blk ?_
        | refine W_exit (by rfl) ?_
        | refine W_region (by rfl) ?_
        | refine W_opsnil ?_
        | refine W_pure TOk (by rfl) (by first | trivial | (simp only [okI, and_true, true_and, and_self] <;> omega)) ?_
        | refine W_on (by rfl) (by rfl) (by rfl) ?_
        | refine W_off (by rfl) (by rfl) (by rfl) (by rfl) (by rfl) ?_
        | refine W_offU (by rfl) (by rfl) (by rfl) (by rfl) ?_
        | refine W_cond_t (by rfl) ?_
        | refine W_cond_f (by rfl) ?_
        | refine W_load_box 0 TOk (by rfl) (by rfl) (by rfl) (by rfl) (by rfl) ?_
        | refine W_load_box 1 TOk (by rfl) (by rfl) (by rfl) (by rfl) (by rfl) ?_
        | refine W_load_boxN 0 TOk (by rfl) (by rfl) (by rfl) (by rfl) (by rfl) ?_
        | refine W_load_boxN 1 TOk (by rfl) (by rfl) (by rfl) (by rfl) (by rfl) ?_
        | (refine W_store_box 0 TOk (by rfl) (by rfl) (by rfl) (by rfl) (by rfl) (by rfl) ?_; dsimp only [setL, putL, vcells])
        | (refine W_store_box 1 TOk (by rfl) (by rfl) (by rfl) (by rfl) (by rfl) (by rfl) ?_; dsimp only [setL, putL, vcells])
      refine W_retF (vs := [_, _]) ⟨rv_box 0 TOk rfl rfl rfl, rfl, trivial⟩ (Ent.nil _) ⟨?_, rfl⟩
      unfold placeS
      rw [if_pos ⟨by omega, by omega⟩, h1.flat]
      rfl
set_option maxHeartbeats 400000 in
theorem Offset_no (w : World) (l c : Int) : Val Try.prog 42 [.pointer none, pos l c] w (.tuple #[.int .i64 0, .int .i64 1]) := by
  refine enterF Try.func42 rfl Try.ntmps42 rfl rfl ?_
  repeat first
    | refine W_seq ?_
    | refine W_skip ?_
    | refine W_block ?_
    | refine W_blk ?_
    | refine W_exit (by rfl) ?_
    | refine W_region (by rfl) ?_
    | refine W_opsnil ?_
    | refine W_pure TOk (by rfl) (by first | trivial | (simp only [okI, and_true, true_and, and_self] <;> omega)) ?_
    | refine W_on (by rfl) (by rfl) (by rfl) ?_
    | refine W_off (by rfl) (by rfl) (by rfl) (by rfl) (by rfl) ?_
    | refine W_offU (by rfl) (by rfl) (by rfl) (by rfl) ?_
    | refine W_cond_t (by rfl) ?_
    | refine W_cond_f (by rfl) ?_
  refine W_box (cs := [_, _]) (by rfl) (by rfl) (by rfl) (fun b2 => ?_)
  repeat first
    | refine W_seq ?_
    | refine W_skip ?_
    | refine W_block ?_
    | refine W_blk ?_
    | refine W_exit (by rfl) ?_
    | refine W_region (by rfl) ?_
    | refine W_opsnil ?_
    | refine W_pure TOk (by rfl) (by first | trivial | (simp only [okI, and_true, true_and, and_self] <;> omega)) ?_
    | refine W_on (by rfl) (by rfl) (by rfl) ?_
    | refine W_off (by rfl) (by rfl) (by rfl) (by rfl) (by rfl) ?_
    | refine W_offU (by rfl) (by rfl) (by rfl) (by rfl) ?_
    | refine W_cond_t (by rfl) ?_
    | refine W_cond_f (by rfl) ?_
    | refine W_load_box 0 TOk (by rfl) (by rfl) (by rfl) (by rfl) (by rfl) ?_
    | refine W_load_box 1 TOk (by rfl) (by rfl) (by rfl) (by rfl) (by rfl) ?_
    | refine W_load_boxN 0 TOk (by rfl) (by rfl) (by rfl) (by rfl) (by rfl) ?_
    | refine W_load_boxN 1 TOk (by rfl) (by rfl) (by rfl) (by rfl) (by rfl) ?_
    | (refine W_store_box 0 TOk (by rfl) (by rfl) (by rfl) (by rfl) (by rfl) (by rfl) ?_; dsimp only [setL, putL, vcells])
    | (refine W_store_box 1 TOk (by rfl) (by rfl) (by rfl) (by rfl) (by rfl) (by rfl) ?_; dsimp only [setL, putL, vcells])
  refine W_retF (vs := [_, _]) ⟨rfl, rfl, trivial⟩ (Ent.nil _) ⟨rfl, rfl⟩

set_option maxHeartbeats 1000000 in
theorem Offset_c (w : World) (b : Nat) (x : List Int) (l c : Int) (h : TextAt w b x) : Val Try.prog 42 [.pointer (some ⟨b, 0, none⟩), pos l c] w (.tuple #[.int .i64 (offS x l c).1, .int .i64 (offS x l c).2]) := by
  have hbig := h.big
  have hll := lens_le x
  obtain ⟨tb, A, cc, ss, h1, h2, h3, h4, h5⟩ := h.ex
  refine enterF Try.func42 rfl Try.ntmps42 rfl rfl ?_
  repeat first
    | refine W_seq ?_
    | refine W_skip ?_
    | refine W_block ?_
    | refine W_blk ?_
    | refine W_exit (by rfl) ?_
    | refine W_region (by rfl) ?_
    | refine W_opsnil ?_
    | refine W_pure TOk (by rfl) (by first | trivial | (simp only [okI, and_true, true_and, and_self] <;> omega)) ?_
    | refine W_on (by rfl) (by rfl) (by rfl) ?_
    | refine W_off (by rfl) (by rfl) (by rfl) (by rfl) (by rfl) ?_
    | refine W_offU (by rfl) (by rfl) (by rfl) (by rfl) ?_
    | refine W_cond_t (by rfl) ?_
    | refine W_cond_f (by rfl) ?_
  refine W_box (cs := [_, _]) (by rfl) (by rfl) (by rfl) (fun b2 => ?_)
  repeat first
    | refine W_seq ?_
    | refine W_skip ?_
    | refine W_block ?_
    | refine W_blk ?_
    | refine W_exit (by rfl) ?_
    | refine W_region (by rfl) ?_
    | refine W_opsnil ?_
    | refine W_pure TOk (by rfl) (by first | trivial | (simp only [okI, and_true, true_and, and_self] <;> omega)) ?_
    | refine W_on (by rfl) (by rfl) (by rfl) ?_
    | refine W_off (by rfl) (by rfl) (by rfl) (by rfl) (by rfl) ?_
    | refine W_offU (by rfl) (by rfl) (by rfl) (by rfl) ?_
    | refine W_cond_t (by rfl) ?_
    | refine W_cond_f (by rfl) ?_
    | refine W_load_box 0 TOk (by rfl) (by rfl) (by rfl) (by rfl) (by rfl) ?_
    | refine W_load_box 1 TOk (by rfl) (by rfl) (by rfl) (by rfl) (by rfl) ?_
    | refine W_load_boxN 0 TOk (by rfl) (by rfl) (by rfl) (by rfl) (by rfl) ?_
    | refine W_load_boxN 1 TOk (by rfl) (by rfl) (by rfl) (by rfl) (by rfl) ?_
    | (refine W_store_box 0 TOk (by rfl) (by rfl) (by rfl) (by rfl) (by rfl) (by rfl) ?_; dsimp only [setL, putL, vcells])
    | (refine W_store_box 1 TOk (by rfl) (by rfl) (by rfl) (by rfl) (by rfl) (by rfl) ?_; dsimp only [setL, putL, vcells])
  refine W_draw (fun w1 => St _ _ w1 _) [] [(0, 0), (1, 0), (2, 0), (3, 0), (4, 0), (5, 0), (6, 0), (7, 0), (8, 0), (9, 0), (10, 0), (11, 0), (12, 0), (13, 0), (14, 0), (15, 0), (16, 0), (17, 0)] (by kernel_rfl) (fun _ h => h) (by rfl) (by kernel_rfl) (fun hB => ?_)
  repeat first
    | refine D_pure1 TOk (by kernel_rfl) hB (by rfl) (by rfl) (by rfl) (by rfl) (by first | trivial | (simp only [okI, and_true, true_and, and_self] <;> omega)) (fun hB => ?_)
    | refine D_off (by kernel_rfl) hB (by rfl) (by rfl) (by rfl) (fun hB => ?_)
    | refine D_done hB ?_
    | refine D_shown (fun _ h => h) ?_
    | refine D_shown (fun _ h => h.ent (Ent.drop1 _ _)) ?_
    | refine D_load_box 0 TOk (by kernel_rfl) hB (by rfl) (by rfl) (by rfl) (by rfl) (by rfl) (fun _ h => h) (by rfl) (by rfl) (fun hB => ?_)
    | refine D_load_boxN 0 TOk (by kernel_rfl) hB (by rfl) (by rfl) (by rfl) (by rfl) (by rfl) (by rfl) (fun _ h => h) (by rfl) (fun hB => ?_)
  refine W_dec 13 (by rfl) (fun hd => ?_) (fun hd => ?_)
  · have hn := of_decide_eq_true hd
    repeat first
      | refine D_pure1 TOk (by kernel_rfl) hB (by rfl) (by rfl) (by rfl) (by rfl) (by first | trivial | (simp only [okI, and_true, true_and, and_self] <;> omega)) (fun hB => ?_)
      | refine D_off (by kernel_rfl) hB (by rfl) (by rfl) (by rfl) (fun hB => ?_)
      | refine D_done hB ?_
      | refine D_shown (fun _ h => h) ?_
      | refine D_shown (fun _ h => h.ent (Ent.drop1 _ _)) ?_
      | refine D_load_box 0 TOk (by kernel_rfl) hB (by rfl) (by rfl) (by rfl) (by rfl) (by rfl) (fun _ h => h) (by rfl) (by rfl) (fun hB => ?_)
      | refine D_load_boxN 0 TOk (by kernel_rfl) hB (by rfl) (by rfl) (by rfl) (by rfl) (by rfl) (by rfl) (fun _ h => h) (by rfl) (fun hB => ?_)
    repeat first
      | refine W_seq ?_
      | refine W_skip ?_
      | refine W_block ?_
      | refine W_blk ?_
      | refine W_exit (by rfl) ?_
      | refine W_region (by rfl) ?_
      | refine W_opsnil ?_
      | refine W_pure TOk (by rfl) (by first | trivial | (simp only [okI, and_true, true_and, and_self] <;> omega)) ?_
      | refine W_on (by rfl) (by rfl) (by rfl) ?_
      | refine W_off (by rfl) (by rfl) (by rfl) (by rfl) (by rfl) ?_
      | refine W_offU (by rfl) (by rfl) (by rfl) (by rfl) ?_
      | refine W_cond_t (by rfl) ?_
      | refine W_cond_f (by rfl) ?_
      | refine W_load_box 0 TOk (by rfl) (by rfl) (by rfl) (by rfl) (by rfl) ?_
      | refine W_load_box 1 TOk (by rfl) (by rfl) (by rfl) (by rfl) (by rfl) ?_
      | refine W_load_boxN 0 TOk (by rfl) (by rfl) (by rfl) (by rfl) (by rfl) ?_
      | refine W_load_boxN 1 TOk (by rfl) (by rfl) (by rfl) (by rfl) (by rfl) ?_
      | (refine W_store_box 0 TOk (by rfl) (by rfl) (by rfl) (by rfl) (by rfl) (by rfl) ?_; dsimp only [setL, putL, vcells])
      | (refine W_store_box 1 TOk (by rfl) (by rfl) (by rfl) (by rfl) (by rfl) (by rfl) ?_; dsimp only [setL, putL, vcells])
    refine W_retF (vs := [_, _]) ⟨rfl, rfl, trivial⟩ (Ent.nil _) ⟨?_, rfl⟩
    unfold offS
    rw [if_neg (by omega)]
    rfl
  · have hn := of_decide_eq_false hd
    repeat first
      | refine D_pure1 TOk (by kernel_rfl) hB (by rfl) (by rfl) (by rfl) (by rfl) (by first | trivial | (simp only [okI, and_true, true_and, and_self] <;> omega)) (fun hB => ?_)
      | refine D_off (by kernel_rfl) hB (by rfl) (by rfl) (by rfl) (fun hB => ?_)
      | refine D_done hB ?_
      | refine D_shown (fun _ h => h) ?_
      | refine D_shown (fun _ h => h.ent (Ent.drop1 _ _)) ?_
      | refine D_load_box 0 TOk (by kernel_rfl) hB (by rfl) (by rfl) (by rfl) (by rfl) (by rfl) (fun _ h => h) (by rfl) (by rfl) (fun hB => ?_)
      | refine D_load_boxN 0 TOk (by kernel_rfl) hB (by rfl) (by rfl) (by rfl) (by rfl) (by rfl) (by rfl) (fun _ h => h) (by rfl) (fun hB => ?_)
    refine D_load TOk (by kernel_rfl) hB (by rfl) (by rfl) (fun _ h => h) (fun _ h => h) (by rfl) (by rfl) (by rfl) (fun w1 hw => ⟨_, rfl, (h2.below hw.below) 2 _ rfl⟩) (fun hB => ?_)
    repeat first
      | refine D_pure1 TOk (by kernel_rfl) hB (by rfl) (by rfl) (by rfl) (by rfl) (by first | trivial | (simp only [okI, and_true, true_and, and_self] <;> omega)) (fun hB => ?_)
      | refine D_off (by kernel_rfl) hB (by rfl) (by rfl) (by rfl) (fun hB => ?_)
      | refine D_done hB ?_
      | refine D_shown (fun _ h => h) ?_
      | refine D_shown (fun _ h => h.ent (Ent.drop1 _ _)) ?_
      | refine D_load_box 0 TOk (by kernel_rfl) hB (by rfl) (by rfl) (by rfl) (by rfl) (by rfl) (fun _ h => h) (by rfl) (by rfl) (fun hB => ?_)
      | refine D_load_boxN 0 TOk (by kernel_rfl) hB (by rfl) (by rfl) (by rfl) (by rfl) (by rfl) (by rfl) (fun _ h => h) (by rfl) (fun hB => ?_)
    refine W_dec 23 (by rfl) (fun hd2 => ?_) (fun hd2 => ?_)
    · have hn2 := of_decide_eq_true hd2
      repeat first
        | refine D_pure1 TOk (by kernel_rfl) hB (by rfl) (by rfl) (by rfl) (by rfl) (by first | trivial | (simp only [okI, and_true, true_and, and_self] <;> omega)) (fun hB => ?_)
        | refine D_off (by kernel_rfl) hB (by rfl) (by rfl) (by rfl) (fun hB => ?_)
        | refine D_done hB ?_
        | refine D_shown (fun _ h => h) ?_
        | refine D_shown (fun _ h => h.ent (Ent.drop1 _ _)) ?_
        | refine D_load_box 0 TOk (by kernel_rfl) hB (by rfl) (by rfl) (by rfl) (by rfl) (by rfl) (fun _ h => h) (by rfl) (by rfl) (fun hB => ?_)
        | refine D_load_boxN 0 TOk (by kernel_rfl) hB (by rfl) (by rfl) (by rfl) (by rfl) (by rfl) (by rfl) (fun _ h => h) (by rfl) (fun hB => ?_)
      repeat first
        | refine W_seq ?_
        | refine W_skip ?_
        | refine W_block ?_
        | refine W_blk ?_
        | refine W_exit (by rfl) ?_
        | refine W_region (by rfl) ?_
        | refine W_opsnil ?_
        | refine W_pure TOk (by rfl) (by first | trivial | (simp only [okI, and_true, true_and, and_self] <;> omega)) ?_
        | refine W_on (by rfl) (by rfl) (by rfl) ?_
        | refine W_off (by rfl) (by rfl) (by rfl) (by rfl) (by rfl) ?_
        | refine W_offU (by rfl) (by rfl) (by rfl) (by rfl) ?_
        | refine W_cond_t (by rfl) ?_
        | refine W_cond_f (by rfl) ?_
        | refine W_load_box 0 TOk (by rfl) (by rfl) (by rfl) (by rfl) (by rfl) ?_
        | refine W_load_box 1 TOk (by rfl) (by rfl) (by rfl) (by rfl) (by rfl) ?_
        | refine W_load_boxN 0 TOk (by rfl) (by rfl) (by rfl) (by rfl) (by rfl) ?_
        | refine W_load_boxN 1 TOk (by rfl) (by rfl) (by rfl) (by rfl) (by rfl) ?_
        | (refine W_store_box 0 TOk (by rfl) (by rfl) (by rfl) (by rfl) (by rfl) (by rfl) ?_; dsimp only [setL, putL, vcells])
        | (refine W_store_box 1 TOk (by rfl) (by rfl) (by rfl) (by rfl) (by rfl) (by rfl) ?_; dsimp only [setL, putL, vcells])
      refine W_retF (vs := [_, _]) ⟨rfl, rfl, trivial⟩ (Ent.nil _) ⟨?_, rfl⟩
      unfold offS
      rw [if_neg (by omega)]
      rfl
    · have hn2 := of_decide_eq_false hd2
      repeat first
        | refine D_pure1 TOk (by kernel_rfl) hB (by rfl) (by rfl) (by rfl) (by rfl) (by first | trivial | (simp only [okI, and_true, true_and, and_self] <;> omega)) (fun hB => ?_)
        | refine D_off (by kernel_rfl) hB (by rfl) (by rfl) (by rfl) (fun hB => ?_)
        | refine D_done hB ?_
        | refine D_shown (fun _ h => h) ?_
        | refine D_shown (fun _ h => h.ent (Ent.drop1 _ _)) ?_
        | refine D_load_box 0 TOk (by kernel_rfl) hB (by rfl) (by rfl) (by rfl) (by rfl) (by rfl) (fun _ h => h) (by rfl) (by rfl) (fun hB => ?_)
        | refine D_load_boxN 0 TOk (by kernel_rfl) hB (by rfl) (by rfl) (by rfl) (by rfl) (by rfl) (by rfl) (fun _ h => h) (by rfl) (fun hB => ?_)
      repeat first
        | refine W_seq ?_
        | refine W_skip ?_
        | refine W_block ?_
        | refine W_blk ?_
        | refine W_exit (by rfl) ?_
        | refine W_region (by rfl) ?_
        | refine W_opsnil ?_
        | refine W_pure TOk (by rfl) (by first | trivial | (simp only [okI, and_true, true_and, and_self] <;> omega)) ?_
        | refine W_on (by rfl) (by rfl) (by rfl) ?_
        | refine W_off (by rfl) (by rfl) (by rfl) (by rfl) (by rfl) ?_
        | refine W_offU (by rfl) (by rfl) (by rfl) (by rfl) ?_
        | refine W_cond_t (by rfl) ?_
        | refine W_cond_f (by rfl) ?_
        | refine W_load_box 0 TOk (by rfl) (by rfl) (by rfl) (by rfl) (by rfl) ?_
        | refine W_load_box 1 TOk (by rfl) (by rfl) (by rfl) (by rfl) (by rfl) ?_
        | refine W_load_boxN 0 TOk (by rfl) (by rfl) (by rfl) (by rfl) (by rfl) ?_
        | refine W_load_boxN 1 TOk (by rfl) (by rfl) (by rfl) (by rfl) (by rfl) ?_
        | (refine W_store_box 0 TOk (by rfl) (by rfl) (by rfl) (by rfl) (by rfl) (by rfl) ?_; dsimp only [setL, putL, vcells])
        | (refine W_store_box 1 TOk (by rfl) (by rfl) (by rfl) (by rfl) (by rfl) (by rfl) ?_; dsimp only [setL, putL, vcells])
      refine W_cond_d (by rfl) (fun hc => ?_) (fun hc => ?_)
      · repeat first
          | refine W_seq ?_
          | refine W_skip ?_
          | refine W_block ?_
          | refine W_blk ?_
          | refine W_exit (by rfl) ?_
          | refine W_region (by rfl) ?_
          | refine W_opsnil ?_
          | refine W_pure TOk (by rfl) (by first | trivial | (simp only [okI, and_true, true_and, and_self] <;> omega)) ?_
          | refine W_on (by rfl) (by rfl) (by rfl) ?_
          | refine W_off (by rfl) (by rfl) (by rfl) (by rfl) (by rfl) ?_
          | refine W_offU (by rfl) (by rfl) (by rfl) (by rfl) ?_
          | refine W_cond_t (by rfl) ?_
          | refine W_cond_f (by rfl) ?_
          | refine W_load_box 0 TOk (by rfl) (by rfl) (by rfl) (by rfl) (by rfl) ?_
          | refine W_load_box 1 TOk (by rfl) (by rfl) (by rfl) (by rfl) (by rfl) ?_
          | refine W_load_boxN 0 TOk (by rfl) (by rfl) (by rfl) (by rfl) (by rfl) ?_
          | refine W_load_boxN 1 TOk (by rfl) (by rfl) (by rfl) (by rfl) (by rfl) ?_
          | (refine W_store_box 0 TOk (by rfl) (by rfl) (by rfl) (by rfl) (by rfl) (by rfl) ?_; dsimp only [setL, putL, vcells])
          | (refine W_store_box 1 TOk (by rfl) (by rfl) (by rfl) (by rfl) (by rfl) (by rfl) ?_; dsimp only [setL, putL, vcells])
        refine W_retF (vs := [_, _]) ⟨rfl, rfl, trivial⟩ (Ent.nil _) ⟨?_, rfl⟩
        unfold offS
        rw [if_neg (by omega)]
        rfl
      · have hr := rd_lens x l (by omega) (by omega)
        have hs := startS_le x l
        repeat first
          | refine W_seq ?_
          | refine W_skip ?_
          | refine W_block ?_
          | refine W_blk ?_
          | refine W_exit (by rfl) ?_
          | refine W_region (by rfl) ?_
          | refine W_opsnil ?_
          | refine W_pure TOk (by rfl) (by first | trivial | (simp only [okI, and_true, true_and, and_self] <;> omega)) ?_
          | refine W_on (by rfl) (by rfl) (by rfl) ?_
          | refine W_off (by rfl) (by rfl) (by rfl) (by rfl) (by rfl) ?_
          | refine W_offU (by rfl) (by rfl) (by rfl) (by rfl) ?_
          | refine W_cond_t (by rfl) ?_
          | refine W_cond_f (by rfl) ?_
          | refine W_load_box 0 TOk (by rfl) (by rfl) (by rfl) (by rfl) (by rfl) ?_
          | refine W_load_box 1 TOk (by rfl) (by rfl) (by rfl) (by rfl) (by rfl) ?_
          | refine W_load_boxN 0 TOk (by rfl) (by rfl) (by rfl) (by rfl) (by rfl) ?_
          | refine W_load_boxN 1 TOk (by rfl) (by rfl) (by rfl) (by rfl) (by rfl) ?_
          | (refine W_store_box 0 TOk (by rfl) (by rfl) (by rfl) (by rfl) (by rfl) (by rfl) ?_; dsimp only [setL, putL, vcells])
          | (refine W_store_box 1 TOk (by rfl) (by rfl) (by rfl) (by rfl) (by rfl) (by rfl) ?_; dsimp only [setL, putL, vcells])
        refine W_draw (fun w1 => St _ _ w1 _) [] [(0, 0), (1, 0), (2, 0), (3, 0), (4, 0), (5, 1), (6, 0), (7, 0), (8, 0), (9, 0), (10, 0)] (by kernel_rfl) (fun _ h => h) (by rfl) (by kernel_rfl) (fun hB => ?_)
        repeat first
          | refine D_pure TOk (by kernel_rfl) hB (by rfl) (by rfl) (by first | trivial | (simp only [okI, and_true, true_and, and_self] <;> omega)) (fun hB => ?_)
          | refine D_done hB ?_
          | refine D_shown (fun _ h => h) ?_
          | refine D_shown (fun _ h => h.ent (Ent.drop1 _ _)) ?_
          | refine D_load_box 0 TOk (by kernel_rfl) hB (by rfl) (by rfl) (by rfl) (by rfl) (by rfl) (fun _ h => h) (by rfl) (by rfl) (fun hB => ?_)
          | refine D_load_boxN 0 TOk (by kernel_rfl) hB (by rfl) (by rfl) (by rfl) (by rfl) (by rfl) (by rfl) (fun _ h => h) (by rfl) (fun hB => ?_)
        refine D_one hB (by rfl) (fun hB => ?_)
        refine W_callV (by rfl) Try.call110 (by rfl) (fun w1 hw => start_c w1 b A cc ss l ((h2.below hw.below) 1 _ rfl) (h4.below hw.below) (h1.ok hbig) (by omega) (by omega)) ?_
        rw [h1.flat]
        repeat first
          | refine W_seq ?_
          | refine W_skip ?_
          | refine W_block ?_
          | refine W_blk ?_
          | refine W_exit (by rfl) ?_
          | refine W_region (by rfl) ?_
          | refine W_opsnil ?_
          | refine W_pure TOk (by rfl) (by first | trivial | (simp only [okI, and_true, true_and, and_self] <;> omega)) ?_
          | refine W_on (by rfl) (by rfl) (by rfl) ?_
          | refine W_off (by rfl) (by rfl) (by rfl) (by rfl) (by rfl) ?_
          | refine W_offU (by rfl) (by rfl) (by rfl) (by rfl) ?_
          | refine W_cond_t (by rfl) ?_
          | refine W_cond_f (by rfl) ?_
        repeat first
          | refine D_pure TOk (by kernel_rfl) hB (by rfl) (by rfl) (by first | trivial | (simp only [okI, and_true, true_and, and_self] <;> omega)) (fun hB => ?_)
          | refine D_done hB ?_
          | refine D_shown (fun _ h => h) ?_
          | refine D_shown (fun _ h => h.ent (Ent.drop1 _ _)) ?_
          | refine D_load_box 0 TOk (by kernel_rfl) hB (by rfl) (by rfl) (by rfl) (by rfl) (by rfl) (fun _ h => h) (by rfl) (by rfl) (fun hB => ?_)
          | refine D_load_boxN 0 TOk (by kernel_rfl) hB (by rfl) (by rfl) (by rfl) (by rfl) (by rfl) (by rfl) (fun _ h => h) (by rfl) (fun hB => ?_)
        repeat first
          | refine W_seq ?_
          | refine W_skip ?_
          | refine W_block ?_
          | refine W_blk ?_
          | refine W_exit (by rfl) ?_
          | refine W_region (by rfl) ?_
          | refine W_opsnil ?_
          | refine W_pure TOk (by rfl) (by first | trivial | (simp only [okI, and_true, true_and, and_self] <;> omega)) ?_
          | refine W_on (by rfl) (by rfl) (by rfl) ?_
          | refine W_off (by rfl) (by rfl) (by rfl) (by rfl) (by rfl) ?_
          | refine W_offU (by rfl) (by rfl) (by rfl) (by rfl) ?_
          | refine W_cond_t (by rfl) ?_
          | refine W_cond_f (by rfl) ?_
          | refine W_load_box 0 TOk (by rfl) (by rfl) (by rfl) (by rfl) (by rfl) ?_
          | refine W_load_box 1 TOk (by rfl) (by rfl) (by rfl) (by rfl) (by rfl) ?_
          | refine W_load_boxN 0 TOk (by rfl) (by rfl) (by rfl) (by rfl) (by rfl) ?_
          | refine W_load_boxN 1 TOk (by rfl) (by rfl) (by rfl) (by rfl) (by rfl) ?_
          | (refine W_store_box 0 TOk (by rfl) (by rfl) (by rfl) (by rfl) (by rfl) (by rfl) ?_; dsimp only [setL, putL, vcells])
          | (refine W_store_box 1 TOk (by rfl) (by rfl) (by rfl) (by rfl) (by rfl) (by rfl) ?_; dsimp only [setL, putL, vcells])
        have e1 : bsum ((lens x).take l.toNat) = startS x l := rfl
        rw [e1]
        refine W_cond_d (by rfl) (fun hgt => ?_) (fun hle => ?_)
        · repeat first
            | refine W_seq ?_
            | refine W_skip ?_
            | refine W_block ?_
            | refine W_blk ?_
            | refine W_exit (by rfl) ?_
            | refine W_region (by rfl) ?_
            | refine W_opsnil ?_
            | refine W_pure TOk (by rfl) (by first | trivial | (simp only [okI, and_true, true_and, and_self] <;> omega)) ?_
            | refine W_on (by rfl) (by rfl) (by rfl) ?_
            | refine W_off (by rfl) (by rfl) (by rfl) (by rfl) (by rfl) ?_
            | refine W_offU (by rfl) (by rfl) (by rfl) (by rfl) ?_
            | refine W_cond_t (by rfl) ?_
            | refine W_cond_f (by rfl) ?_
            | refine W_load_box 0 TOk (by rfl) (by rfl) (by rfl) (by rfl) (by rfl) ?_
            | refine W_load_box 1 TOk (by rfl) (by rfl) (by rfl) (by rfl) (by rfl) ?_
            | refine W_load_boxN 0 TOk (by rfl) (by rfl) (by rfl) (by rfl) (by rfl) ?_
            | refine W_load_boxN 1 TOk (by rfl) (by rfl) (by rfl) (by rfl) (by rfl) ?_
            | (refine W_store_box 0 TOk (by rfl) (by rfl) (by rfl) (by rfl) (by rfl) (by rfl) ?_; dsimp only [setL, putL, vcells])
            | (refine W_store_box 1 TOk (by rfl) (by rfl) (by rfl) (by rfl) (by rfl) (by rfl) ?_; dsimp only [setL, putL, vcells])
          refine W_retF (vs := [_, _]) ⟨rfl, rfl, trivial⟩ (Ent.nil _) ⟨?_, rfl⟩
          unfold offS
          rw [if_neg (by omega)]
          rfl
        · repeat first
            | refine W_seq ?_
            | refine W_skip ?_
            | refine W_block ?_
            | refine W_blk ?_
            | refine W_exit (by rfl) ?_
            | refine W_region (by rfl) ?_
            | refine W_opsnil ?_
            | refine W_pure TOk (by rfl) (by first | trivial | (simp only [okI, and_true, true_and, and_self] <;> omega)) ?_
            | refine W_on (by rfl) (by rfl) (by rfl) ?_
            | refine W_off (by rfl) (by rfl) (by rfl) (by rfl) (by rfl) ?_
            | refine W_offU (by rfl) (by rfl) (by rfl) (by rfl) ?_
            | refine W_cond_t (by rfl) ?_
            | refine W_cond_f (by rfl) ?_
            | refine W_load_box 0 TOk (by rfl) (by rfl) (by rfl) (by rfl) (by rfl) ?_
            | refine W_load_box 1 TOk (by rfl) (by rfl) (by rfl) (by rfl) (by rfl) ?_
            | refine W_load_boxN 0 TOk (by rfl) (by rfl) (by rfl) (by rfl) (by rfl) ?_
            | refine W_load_boxN 1 TOk (by rfl) (by rfl) (by rfl) (by rfl) (by rfl) ?_
            | (refine W_store_box 0 TOk (by rfl) (by rfl) (by rfl) (by rfl) (by rfl) (by rfl) ?_; dsimp only [setL, putL, vcells])
            | (refine W_store_box 1 TOk (by rfl) (by rfl) (by rfl) (by rfl) (by rfl) (by rfl) ?_; dsimp only [setL, putL, vcells])
          refine W_retF (vs := [_, _]) ⟨rfl, rfl, trivial⟩ (Ent.nil _) ⟨?_, rfl⟩
          unfold offS
          rw [if_pos (by omega)]
          rfl
end Go.Proofs.Ytdfibmbedjpcgaa
