/- All lines; lines in the place of lines. -/
import Derived.Test.YtdfibmbedjpcgaaS5
set_option linter.unusedVariables false
set_option linter.unusedSimpArgs false
namespace Go.Proofs.Ytdfibmbedjpcgaa
open Go Go.RowKit Eng Ls
attribute [local irreducible] Eng.W

/-- The header of line i of a row that lies at A, with c places. -/
def rowH (A : Option Addr) (c : Nat) (x : List Int) (i : Nat) : Value :=
  if i + 1 < (lens x).length then .slice (cutA A (beg x i) (beg x i + siz x i) 1) (siz x i) (siz x i) else .slice (cutA A (beg x i) c 1) (siz x i) (c - beg x i)
def rowsH (A : Option Addr) (c : Nat) (x : List Int) (n : Nat) : List Value := (List.range n).map (rowH A c x)
theorem rowsH_succ (A : Option Addr) (c : Nat) (x : List Int) (n : Nat) : rowsH A c x (n + 1) = rowsH A c x n ++ [rowH A c x n] := by simp [rowsH, List.range_succ]
theorem rowsH_length (A : Option Addr) (c : Nat) (x : List Int) (n : Nat) : (rowsH A c x n).length = n := by simp [rowsH]
def AllR (x : List Int) (v : Value) (M : List Ast) : Prop := ∃ A c A' c', v = .slice A' (lens x).length c' ∧ x.length ≤ c ∧ M = [own 48 1 A' (lens x).length c' (rowsH A c x (lens x).length), own 21 1 A x.length c (i32s x)]
set_option maxHeartbeats 400000 in
theorem All_no (w : World) : Val Try.prog 65 [.pointer none] w (.slice none 0 0) := by
  refine enterF Try.func65 rfl Try.ntmps65 rfl rfl ?_
  repeat first
    | refine W_seq ?_
    | refine W_skip ?_
    | refine W_block ?_
    | refine W_blk ?_
    | refine W_exit (by rfl) ?_
    | refine W_region (by rfl) ?_
    | refine W_opsnil ?_
    | refine W_pure TOk (by rfl) (by first | trivial | (simp only [okI, and_true, true_and, and_self] <;> omega)) ?_
    | refine W_on (by rfl) (by rfl) (by rfl) ?_
    | refine W_off (by rfl) (by rfl) (by rfl) (by rfl) (by rfl) ?_
    | refine W_offU (by rfl) (by rfl) (by rfl) (by rfl) ?_
    | refine W_cond_t (by rfl) ?_
    | refine W_cond_f (by rfl) ?_
  exact W_retF (vs := [_]) ⟨rfl, trivial⟩ (Ent.refl _) ⟨rfl, rfl⟩
set_option maxHeartbeats 2000000 in
theorem All_c (w : World) (b : Nat) (x : List Int) (h : TextAt w b x) : Fresh Try.prog 65 [.pointer (some ⟨b, 0, none⟩)] w (AllR x) := by
  have hx : x.length ≤ 65536 := h.big
  have hll := lens_le x
  have hlp := lens_pos x
  obtain ⟨tb, At, ct, ss, h1, h2, h3, h4, h5⟩ := h.ex
  refine enterF Try.func65 rfl Try.ntmps65 rfl rfl ?_
  repeat first
    | refine W_seq ?_
    | refine W_skip ?_
    | refine W_block ?_
    | refine W_blk ?_
    | refine W_exit (by rfl) ?_
    | refine W_region (by rfl) ?_
    | refine W_opsnil ?_
    | refine W_pure TOk (by rfl) (by first | trivial | (simp only [okI, and_true, true_and, and_self] <;> omega)) ?_
    | refine W_on (by rfl) (by rfl) (by rfl) ?_
    | refine W_off (by rfl) (by rfl) (by rfl) (by rfl) (by rfl) ?_
    | refine W_offU (by rfl) (by rfl) (by rfl) (by rfl) ?_
    | refine W_cond_t (by rfl) ?_
    | refine W_cond_f (by rfl) ?_
  refine W_draw (fun w1 => St _ _ w1 _) [9] [(0, 0), (1, 0), (2, 0), (3, 0), (4, 0), (5, 0), (6, 0), (7, 0), (8, 1), (9, 2), (10, 0), (11, 0), (12, 0), (13, 0), (14, 0)] (by kernel_rfl) (fun _ h => h) (by rfl) (by kernel_rfl) (fun hB => ?_)
  repeat first
    | refine D_pure TOk (by kernel_rfl) hB (by rfl) (by rfl) (by first | trivial | (simp only [okI, and_true, true_and, and_self] <;> omega)) (fun hB => ?_)
    | refine D_done hB ?_
    | refine D_shown (fun _ h => h) ?_
    | refine D_shown (fun _ h => h.ent (Ent.drop1 _ _)) ?_
  refine D_load TOk (by kernel_rfl) hB (by rfl) (by rfl) (fun _ h => h) (fun _ h => h) (by rfl) (by rfl) (by rfl) (fun w1 hw => ⟨_, rfl, (h2.below hw.below) 0 _ rfl⟩) (fun hB => ?_)
  repeat first
    | refine D_pure TOk (by kernel_rfl) hB (by rfl) (by rfl) (by first | trivial | (simp only [okI, and_true, true_and, and_self] <;> omega)) (fun hB => ?_)
    | refine D_done hB ?_
    | refine D_shown (fun _ h => h) ?_
    | refine D_shown (fun _ h => h.ent (Ent.drop1 _ _)) ?_
  refine D_load TOk (by kernel_rfl) hB (by rfl) (by rfl) (fun _ h => h) (fun _ h => h) (by rfl) (by rfl) (by rfl) (fun w1 hw => ⟨_, rfl, (h2.below hw.below) 0 _ rfl⟩) (fun hB => ?_)
  repeat first
    | refine D_pure TOk (by kernel_rfl) hB (by rfl) (by rfl) (by first | trivial | (simp only [okI, and_true, true_and, and_self] <;> omega)) (fun hB => ?_)
    | refine D_done hB ?_
    | refine D_shown (fun _ h => h) ?_
    | refine D_shown (fun _ h => h.ent (Ent.drop1 _ _)) ?_
  refine D_one hB (by rfl) (fun hB => ?_)
  refine W_callV (by rfl) Try.call108 (by rfl) (fun w1 hw => len_c w1 tb x (h3.below hw.below)) ?_
  repeat first
    | refine W_seq ?_
    | refine W_skip ?_
    | refine W_block ?_
    | refine W_blk ?_
    | refine W_exit (by rfl) ?_
    | refine W_region (by rfl) ?_
    | refine W_opsnil ?_
    | refine W_pure TOk (by rfl) (by first | trivial | (simp only [okI, and_true, true_and, and_self] <;> omega)) ?_
    | refine W_on (by rfl) (by rfl) (by rfl) ?_
    | refine W_off (by rfl) (by rfl) (by rfl) (by rfl) (by rfl) ?_
    | refine W_offU (by rfl) (by rfl) (by rfl) (by rfl) ?_
    | refine W_cond_t (by rfl) ?_
    | refine W_cond_f (by rfl) ?_
  repeat first
    | refine D_pure TOk (by kernel_rfl) hB (by rfl) (by rfl) (by first | trivial | (simp only [okI, and_true, true_and, and_self] <;> omega)) (fun hB => ?_)
    | refine D_done hB ?_
    | refine D_shown (fun _ h => h) ?_
    | refine D_shown (fun _ h => h.ent (Ent.drop1 _ _)) ?_
  refine D_last hB (by rfl) (fun hB => ?_)
  refine W_call _ (by rfl) Try.call139 (by rfl) (fun w1 hw => pslice_c w1 tb x 0 x.length (h3.below hw.below) (by omega)) ?_
  rintro _ _ ⟨A, c, rfl, rfl⟩
  dsimp only [List.cons_append, List.nil_append]
  rw [List.drop_zero, List.take_length]
  repeat first
    | refine W_seq ?_
    | refine W_skip ?_
    | refine W_block ?_
    | refine W_blk ?_
    | refine W_exit (by rfl) ?_
    | refine W_region (by rfl) ?_
    | refine W_opsnil ?_
    | refine W_pure TOk (by rfl) (by first | trivial | (simp only [okI, and_true, true_and, and_self] <;> omega)) ?_
    | refine W_on (by rfl) (by rfl) (by rfl) ?_
    | refine W_off (by rfl) (by rfl) (by rfl) (by rfl) (by rfl) ?_
    | refine W_offU (by rfl) (by rfl) (by rfl) (by rfl) ?_
    | refine W_cond_t (by rfl) ?_
    | refine W_cond_f (by rfl) ?_
  repeat first
    | refine D_pure TOk (by kernel_rfl) hB (by rfl) (by rfl) (by first | trivial | (simp only [okI, and_true, true_and, and_self] <;> omega)) (fun hB => ?_)
    | refine D_done hB ?_
    | refine D_shown (fun _ h => h) ?_
    | refine D_shown (fun _ h => h.ent (Ent.drop1 _ _)) ?_
  repeat first
    | refine W_seq ?_
    | refine W_skip ?_
    | refine W_block ?_
    | refine W_blk ?_
    | refine W_exit (by rfl) ?_
    | refine W_region (by rfl) ?_
    | refine W_opsnil ?_
    | refine W_pure TOk (by rfl) (by first | trivial | (simp only [okI, and_true, true_and, and_self] <;> omega)) ?_
    | refine W_on (by rfl) (by rfl) (by rfl) ?_
    | refine W_off (by rfl) (by rfl) (by rfl) (by rfl) (by rfl) ?_
    | refine W_offU (by rfl) (by rfl) (by rfl) (by rfl) ?_
    | refine W_cond_t (by rfl) ?_
    | refine W_cond_f (by rfl) ?_
  refine W_load TOk (by rfl) (by rfl) (by rfl) (fun w1 hw => ⟨_, rfl, (h2.below hw.below) 2 _ rfl⟩) ?_
  repeat first
    | refine W_seq ?_
    | refine W_skip ?_
    | refine W_block ?_
    | refine W_blk ?_
    | refine W_exit (by rfl) ?_
    | refine W_region (by rfl) ?_
    | refine W_opsnil ?_
    | refine W_pure TOk (by rfl) (by first | trivial | (simp only [okI, and_true, true_and, and_self] <;> omega)) ?_
    | refine W_on (by rfl) (by rfl) (by rfl) ?_
    | refine W_off (by rfl) (by rfl) (by rfl) (by rfl) (by rfl) ?_
    | refine W_offU (by rfl) (by rfl) (by rfl) (by rfl) ?_
    | refine W_cond_t (by rfl) ?_
    | refine W_cond_f (by rfl) ?_
  refine W_make TOk (by rfl) (by rfl) (by rfl) sl22 (by omega) (by omega) (by omega) (by omega) (fun g => ?_)
  simp only [Int.toNat_natCast, Int.toNat_zero, List.replicate_zero, List.flatten_nil]
  refine W_ownlen 1 (by rfl) (fun hq1 hq2 hq3 => ?_)
  unfold maxLen at hq3
  repeat first
    | refine W_seq ?_
    | refine W_skip ?_
    | refine W_block ?_
    | refine W_blk ?_
    | refine W_exit (by rfl) ?_
    | refine W_region (by rfl) ?_
    | refine W_opsnil ?_
    | refine W_pure TOk (by rfl) (by first | trivial | (simp only [okI, and_true, true_and, and_self] <;> omega)) ?_
    | refine W_on (by rfl) (by rfl) (by rfl) ?_
    | refine W_off (by rfl) (by rfl) (by rfl) (by rfl) (by rfl) ?_
    | refine W_offU (by rfl) (by rfl) (by rfl) (by rfl) ?_
    | refine W_cond_t (by rfl) ?_
    | refine W_cond_f (by rfl) ?_
  refine W_loop (ι := Nat × Nat × Option Addr × Nat) (fun ⟨k, q, A', c'⟩ => [(30, .slice A x.length c), (31, .int .i64 (x.length : Nat)), (32, .int .i64 (k : Nat)), (3, .slice A x.length c), (5, .slice A' q c'), (6, .int .i64 (beg x q : Nat))]) (fun ⟨k, q, A', c'⟩ => [own 48 1 A' q c' (rowsH A c x q), own 21 1 A x.length c (i32s x)])
    (fun ⟨k, q, A', c'⟩ => k ≤ x.length ∧ q < (lens x).length ∧ beg x q ≤ k ∧ k ≤ beg x q + siz x q) (fun q => x.length - q.1) (0, 0, some ⟨g, 0, none⟩, (lens x).length)
    ⟨by omega, hlp, by rw [beg_zero]; omega, by omega⟩ ⟨rfl, rfl, rfl, rfl, rfl, by rw [beg_zero]; rfl, trivial⟩ (Ent.refl _) ?_
  rintro ⟨k, q, A', c'⟩ ⟨hk, hq, hb1, hb2⟩
  dsimp only at hk hq hb1 hb2 ⊢
  repeat first
    | refine W_seq ?_
    | refine W_skip ?_
    | refine W_block ?_
    | refine W_blk ?_
    | refine W_exit (by rfl) ?_
    | refine W_region (by rfl) ?_
    | refine W_opsnil ?_
    | refine W_pure TOk (by rfl) (by first | trivial | (simp only [okI, and_true, true_and, and_self] <;> omega)) ?_
    | refine W_on (by rfl) (by rfl) (by rfl) ?_
    | refine W_off (by rfl) (by rfl) (by rfl) (by rfl) (by rfl) ?_
    | refine W_offU (by rfl) (by rfl) (by rfl) (by rfl) ?_
    | refine W_cond_t (by rfl) ?_
    | refine W_cond_f (by rfl) ?_
  refine W_cond_d (by rfl) (fun hlt => ?_) (fun hge => ?_)
  · have hrd := rd_get (xs := x) (i := (k : Int)) (by omega) (by omega)
    repeat first
      | refine W_seq ?_
      | refine W_skip ?_
      | refine W_block ?_
      | refine W_blk ?_
      | refine W_exit (by rfl) ?_
      | refine W_region (by rfl) ?_
      | refine W_opsnil ?_
      | refine W_pure TOk (by rfl) (by first | trivial | (simp only [okI, and_true, true_and, and_self] <;> omega)) ?_
      | refine W_on (by rfl) (by rfl) (by rfl) ?_
      | refine W_off (by rfl) (by rfl) (by rfl) (by rfl) (by rfl) ?_
      | refine W_offU (by rfl) (by rfl) (by rfl) (by rfl) ?_
      | refine W_cond_t (by rfl) ?_
      | refine W_cond_f (by rfl) ?_
    refine W_index TOk (by rfl) (by rfl) (by rfl) (by first | exact es48 | exact es22 | exact es136 | exact es150 | exact es223 | exact es29 | exact es132 | exact es207) (by omega) (by omega) (fun w1 hw => (hw.hp.cells 1 rfl).isSome (by rw [i32s_length]; omega)) ?_
    refine W_load TOk (by rfl) (by rfl) (by rfl) (fun w1 hw => (hw.hp.cells 1 rfl).elem1 (i32s_get (by omega) (by omega))) ?_
    repeat first
      | refine W_seq ?_
      | refine W_skip ?_
      | refine W_block ?_
      | refine W_blk ?_
      | refine W_exit (by rfl) ?_
      | refine W_region (by rfl) ?_
      | refine W_opsnil ?_
      | refine W_pure TOk (by rfl) (by first | trivial | (simp only [okI, and_true, true_and, and_self] <;> omega)) ?_
      | refine W_on (by rfl) (by rfl) (by rfl) ?_
      | refine W_off (by rfl) (by rfl) (by rfl) (by rfl) (by rfl) ?_
      | refine W_offU (by rfl) (by rfl) (by rfl) (by rfl) ?_
      | refine W_cond_t (by rfl) ?_
      | refine W_cond_f (by rfl) ?_
    refine W_cond_d (by rfl) (fun hnl => ?_) (fun hnn => ?_)
    · have hke : k = beg x q + siz x q := by
        rcases Nat.lt_or_ge k (beg x q + siz x q) with h | h
        · exact absurd hnl (not_nl q x k _ hq hb1 h hrd)
        · omega
      have hq1 : q + 1 < (lens x).length := by
        rcases Nat.lt_or_ge (q + 1) (lens x).length with h | h
        · exact h
        · have := beg_snoc hq
          rw [show q + 1 = (lens x).length by omega, beg_all] at this
          omega
      have hbs := beg_snoc hq
      repeat first
        | refine W_seq ?_
        | refine W_skip ?_
        | refine W_block ?_
        | refine W_blk ?_
        | refine W_exit (by rfl) ?_
        | refine W_region (by rfl) ?_
        | refine W_opsnil ?_
        | refine W_pure TOk (by rfl) (by first | trivial | (simp only [okI, and_true, true_and, and_self] <;> omega)) ?_
        | refine W_on (by rfl) (by rfl) (by rfl) ?_
        | refine W_off (by rfl) (by rfl) (by rfl) (by rfl) (by rfl) ?_
        | refine W_offU (by rfl) (by rfl) (by rfl) (by rfl) ?_
        | refine W_cond_t (by rfl) ?_
        | refine W_cond_f (by rfl) ?_
      simp only [Int.toNat_natCast, Int.toNat_zero, Nat.sub_zero]
      rw [show k - beg x q = siz x q by omega]
      have hrow : rowH A c x q = .slice (cutA A (beg x q) k 1) (siz x q) (siz x q) := by unfold rowH; rw [if_pos hq1, ← hke]
      refine W_lit TOk (cs := [_]) (by rfl) (by first | exact sl48 | exact sl22 | exact sl136 | exact sl150 | exact sl223 | exact sl29 | exact sl132 | exact sl207) (by rfl) (by rfl) (by rfl) (by rfl) (fun g1 => ?_)
      refine W_append_own 1 TOk (by rfl) (by rfl) (by rfl) sl22 (by rfl) (fun w1 hw => hw.hp.cells 0 rfl) (by rfl) (by first | exact i32s_one _ | exact i64s_one _ | exact one_of _ rfl) (by unfold maxLen; omega) (by omega) (fun A2 c2 => ?_); dsimp only [setL]
      repeat first
        | refine W_seq ?_
        | refine W_skip ?_
        | refine W_block ?_
        | refine W_blk ?_
        | refine W_exit (by rfl) ?_
        | refine W_region (by rfl) ?_
        | refine W_opsnil ?_
        | refine W_pure TOk (by rfl) (by first | trivial | (simp only [okI, and_true, true_and, and_self] <;> omega)) ?_
        | refine W_on (by rfl) (by rfl) (by rfl) ?_
        | refine W_off (by rfl) (by rfl) (by rfl) (by rfl) (by rfl) ?_
        | refine W_offU (by rfl) (by rfl) (by rfl) (by rfl) ?_
        | refine W_cond_t (by rfl) ?_
        | refine W_cond_f (by rfl) ?_
      refine W_inv (k + 1, q + 1, A2, c2) ⟨by dsimp only; omega, by dsimp only; omega, by dsimp only; omega, by dsimp only; omega⟩ (by dsimp only; omega) ⟨rfl, rfl, rfl, rfl, rfl, ?_, trivial⟩ ?_
      · dsimp only
        rw [hbs, ← hke]; rfl
      · dsimp only
        rw [rowsH_succ, hrow]
        exact Ent.drop1 _ _
    · have hke : k < beg x q + siz x q := by
        rcases Nat.lt_or_ge k (beg x q + siz x q) with h | h
        · exact h
        · have hkk : k = beg x q + siz x q := by omega
          have hq1 : q + 1 < (lens x).length := by
            rcases Nat.lt_or_ge (q + 1) (lens x).length with h | h
            · exact h
            · have := beg_snoc hq
              rw [show q + 1 = (lens x).length by omega, beg_all] at this
              omega
          have := nl_at q x hq1
          rw [← hkk] at this
          rw [show ((k : Int)).toNat = k by omega, this] at hrd
          exact absurd (Option.some.inj hrd).symm hnn
      repeat first
        | refine W_seq ?_
        | refine W_skip ?_
        | refine W_block ?_
        | refine W_blk ?_
        | refine W_exit (by rfl) ?_
        | refine W_region (by rfl) ?_
        | refine W_opsnil ?_
        | refine W_pure TOk (by rfl) (by first | trivial | (simp only [okI, and_true, true_and, and_self] <;> omega)) ?_
        | refine W_on (by rfl) (by rfl) (by rfl) ?_
        | refine W_off (by rfl) (by rfl) (by rfl) (by rfl) (by rfl) ?_
        | refine W_offU (by rfl) (by rfl) (by rfl) (by rfl) ?_
        | refine W_cond_t (by rfl) ?_
        | refine W_cond_f (by rfl) ?_
      exact W_inv (k + 1, q, A', c') ⟨by dsimp only; omega, hq, by dsimp only; omega, by dsimp only; omega⟩ (by dsimp only; omega) ⟨rfl, rfl, rfl, rfl, rfl, rfl, trivial⟩ (Ent.refl _)
  · have hke : k = x.length := by omega
    have hqe : q + 1 = (lens x).length := by
      rcases Nat.lt_or_ge (q + 1) (lens x).length with h | h
      · have := beg_lt x (show q < q + 1 by omega) hq
        have := siz_le h
        have := beg_snoc hq
        omega
      · omega
    have hsz : siz x q = x.length - beg x q := by
      have := beg_snoc hq
      rw [hqe, beg_all] at this
      omega
    have hbx : beg x q ≤ x.length := by omega
    repeat first
      | refine W_seq ?_
      | refine W_skip ?_
      | refine W_block ?_
      | refine W_blk ?_
      | refine W_exit (by rfl) ?_
      | refine W_region (by rfl) ?_
      | refine W_opsnil ?_
      | refine W_pure TOk (by rfl) (by first | trivial | (simp only [okI, and_true, true_and, and_self] <;> omega)) ?_
      | refine W_on (by rfl) (by rfl) (by rfl) ?_
      | refine W_off (by rfl) (by rfl) (by rfl) (by rfl) (by rfl) ?_
      | refine W_offU (by rfl) (by rfl) (by rfl) (by rfl) ?_
      | refine W_cond_t (by rfl) ?_
      | refine W_cond_f (by rfl) ?_
    simp only [Int.toNat_natCast, Int.toNat_zero, Nat.sub_zero]
    have hrow : rowH A c x q = .slice (cutA A (beg x q) c 1) (x.length - beg x q) (c - beg x q) := by unfold rowH; rw [if_neg (by omega), hsz]
    refine W_lit TOk (cs := [_]) (by rfl) (by first | exact sl48 | exact sl22 | exact sl136 | exact sl150 | exact sl223 | exact sl29 | exact sl132 | exact sl207) (by rfl) (by rfl) (by rfl) (by rfl) (fun g1 => ?_)
    refine W_append_own 1 TOk (by rfl) (by rfl) (by rfl) sl22 (by rfl) (fun w1 hw => hw.hp.cells 0 rfl) (by rfl) (by first | exact i32s_one _ | exact i64s_one _ | exact one_of _ rfl) (by unfold maxLen; omega) (by omega) (fun A2 c2 => ?_); dsimp only [setL]
    repeat first
      | refine W_seq ?_
      | refine W_skip ?_
      | refine W_block ?_
      | refine W_blk ?_
      | refine W_exit (by rfl) ?_
      | refine W_region (by rfl) ?_
      | refine W_opsnil ?_
      | refine W_pure TOk (by rfl) (by first | trivial | (simp only [okI, and_true, true_and, and_self] <;> omega)) ?_
      | refine W_on (by rfl) (by rfl) (by rfl) ?_
      | refine W_off (by rfl) (by rfl) (by rfl) (by rfl) (by rfl) ?_
      | refine W_offU (by rfl) (by rfl) (by rfl) (by rfl) ?_
      | refine W_cond_t (by rfl) ?_
      | refine W_cond_f (by rfl) ?_
    refine W_retF (vs := [_]) ⟨rfl, trivial⟩ (Ent.drop1 _ _) ⟨A, c, A2, c2, by rw [← hqe]; rfl, hq2, ?_⟩
    rw [← hqe, rowsH_succ, hrow]; rfl
theorem rows_all {w : World} {x : List Int} {A A' : Option Addr} {c : Nat} (h1 : Cells w A' (rowsH A c x (lens x).length)) (h2 : Cells w A (i32s x)) (hc : x.length ≤ c) : RowsAt w A' (splitL x) := by
  refine ⟨_, h1, by rw [rowsH_length, lens_splitL], fun i r hi => ?_⟩
  have hil : i < (lens x).length := by rw [lens_splitL]; exact (List.getElem?_eq_some_iff.1 hi).1
  rw [splitL_line i x hil] at hi
  have hi := (Option.some.inj hi).symm
  subst hi
  have hs := siz_le hil
  have hlen : ((x.drop (beg x i)).take (siz x i)).length = siz x i := cut_eq hs
  have hg : (rowsH A c x (lens x).length)[i]? = some (rowH A c x i) := by simp [rowsH, hil]
  rw [hg, hlen]
  unfold rowH
  split
  · refine ⟨_, _, rfl, Nat.le_refl _, ?_⟩
    have := h2.cut32 (beg x i) (beg x i + siz x i) (beg x i + siz x i) (Nat.le_refl _)
    rwa [Nat.add_sub_cancel_left] at this
  · refine ⟨_, _, rfl, by omega, ?_⟩
    have := h2.cut32 (beg x i) (beg x i + siz x i) c (by omega)
    rwa [Nat.add_sub_cancel_left] at this
end Go.Proofs.Ytdfibmbedjpcgaa
