/- Contracts of the text's making: the index, the table of pieces, lines joined, the text. -/
import Derived.Test.YtdfibmbedjpcgaaR5
set_option linter.unusedVariables false
set_option linter.unusedSimpArgs false
namespace Go.Proofs.Ytdfibmbedjpcgaa
open Go Go.RowKit Eng Ls
attribute [local irreducible] Eng.W

theorem lens_sum_le (xs : List Int) : bsum (lens xs) = xs.length + 1 := bsum_lens xs
set_option maxHeartbeats 400000 in
theorem indexed_c (w : World) (A0 : Option Addr) (c0 : Nat) (xs : List Int) (hx : Cells w A0 (i32s xs)) (hb : xs.length ≤ 1048576) :
    Fresh Try.prog 106 [.slice A0 xs.length c0] w (fun v M => ∃ A c ss, v = .agg #[.slice A ss.length c, .int .i64 ((lens xs).length : Nat)] ∧ ss.flatten = lens xs ∧ (∀ s ∈ ss, s ≠ []) ∧ M = [blocksA A c ss]) := by
  refine enterF Try.func106 rfl Try.ntmps106 rfl rfl ?_
  have hll := lens_length xs
  repeat first
    | refine W_seq ?_
    | refine W_skip ?_
    | refine W_block ?_
    | refine W_blk ?_
    | refine W_exit (by rfl) ?_
    | refine W_region (by rfl) ?_
    | refine W_opsnil ?_
    | refine W_pure TOk (by rfl) (by first | trivial | (simp only [okI, and_true, true_and, and_self] <;> omega)) ?_
    | refine W_on (by rfl) (by rfl) (by rfl) ?_
    | refine W_off (by rfl) (by rfl) (by rfl) (by rfl) (by rfl) ?_
    | refine W_offU (by rfl) (by rfl) (by rfl) (by rfl) ?_
    | refine W_cond_t (by rfl) ?_
    | refine W_cond_f (by rfl) ?_
  refine W_alloc (cs := [_, _]) TOk (by rfl) (by rfl) (fun b => ?_)
  repeat first
    | refine W_seq ?_
    | refine W_skip ?_
    | refine W_block ?_
    | refine W_blk ?_
    | refine W_exit (by rfl) ?_
    | refine W_region (by rfl) ?_
    | refine W_opsnil ?_
    | refine W_pure TOk (by rfl) (by first | trivial | (simp only [okI, and_true, true_and, and_self] <;> omega)) ?_
    | refine W_on (by rfl) (by rfl) (by rfl) ?_
    | refine W_off (by rfl) (by rfl) (by rfl) (by rfl) (by rfl) ?_
    | refine W_offU (by rfl) (by rfl) (by rfl) (by rfl) ?_
    | refine W_cond_t (by rfl) ?_
    | refine W_cond_f (by rfl) ?_
  refine W_call _ (by rfl) Try.call175 (by rfl) (fun w1 hw => sizes_c w1 A0 c0 xs (hx.below hw.below) (by omega)) ?_; rintro _ _ ⟨A1, c1, rfl, rfl⟩; dsimp only [List.cons_append, List.nil_append]
  refine W_ownlen 0 (by rfl) (fun h1 h2 h3 => ?_)
  repeat first
    | refine W_seq ?_
    | refine W_skip ?_
    | refine W_block ?_
    | refine W_blk ?_
    | refine W_exit (by rfl) ?_
    | refine W_region (by rfl) ?_
    | refine W_opsnil ?_
    | refine W_pure TOk (by rfl) (by first | trivial | (simp only [okI, and_true, true_and, and_self] <;> omega)) ?_
    | refine W_on (by rfl) (by rfl) (by rfl) ?_
    | refine W_off (by rfl) (by rfl) (by rfl) (by rfl) (by rfl) ?_
    | refine W_offU (by rfl) (by rfl) (by rfl) (by rfl) ?_
    | refine W_cond_t (by rfl) ?_
    | refine W_cond_f (by rfl) ?_
  refine W_call _ (by rfl) Try.call176 (by rfl) (fun w1 hw => blocked_c w1 A1 c1 (lens xs) (hw.hp.cells 0 rfl) (by omega) h2 (fun x hx => (lens_mem x hx).1) (by rw [bsum_lens]; omega)) ?_; rintro _ _ ⟨A2, c2, ss, rfl, hfl, hne, rfl⟩; dsimp only [List.cons_append, List.nil_append]
  refine W_pick 2 (by rfl) ?_
  repeat first
    | refine W_seq ?_
    | refine W_skip ?_
    | refine W_block ?_
    | refine W_blk ?_
    | refine W_exit (by rfl) ?_
    | refine W_region (by rfl) ?_
    | refine W_opsnil ?_
    | refine W_pure TOk (by rfl) (by first | trivial | (simp only [okI, and_true, true_and, and_self] <;> omega)) ?_
    | refine W_on (by rfl) (by rfl) (by rfl) ?_
    | refine W_off (by rfl) (by rfl) (by rfl) (by rfl) (by rfl) ?_
    | refine W_offU (by rfl) (by rfl) (by rfl) (by rfl) ?_
    | refine W_cond_t (by rfl) ?_
    | refine W_cond_f (by rfl) ?_
    | refine W_load_box 0 TOk (by rfl) (by rfl) (by rfl) (by rfl) (by rfl) ?_
    | refine W_load_boxN 0 TOk (by rfl) (by rfl) (by rfl) (by rfl) (by rfl) ?_
    | (refine W_store_box 0 TOk (by rfl) (by rfl) (by rfl) (by rfl) (by rfl) (by rfl) ?_; dsimp only [setL, putL, vcells])
  refine W_retF (vs := [_]) ⟨rv_box 0 TOk rfl rfl rfl, trivial⟩ (M := [blocksA A2 c2 ss]) ?_ ⟨A2, c2, ss, rfl, hfl, hne, rfl⟩
  exact (Ent.drop1 _ _).trans (Ent.snd _ _ _)

/-! ### The table of pieces -/
def spanC : List (Nat × Nat) → List Value
  | [] => []
  | (o, n) :: r => .int .i64 (o : Nat) :: .int .i64 (n : Nat) :: spanC r
def flatS (S : List Int) (R : List (Nat × Nat)) : List Int := R.flatMap fun p => (S.drop p.1).take p.2
structure tabOk (S : List Int) (R : List (Nat × Nat)) (x : List Int) (m : Nat) : Prop where
  le : S.length ≤ m
  big : x.length ≤ 65536
  pos : ∀ p ∈ R, 0 < p.2 ∧ p.1 + p.2 ≤ S.length
  flat : flatS S R = x
abbrev TabQ := List Int × Option Addr × Nat × List (Nat × Nat) × Option Addr × Nat
def tabL (b : Nat) (x : List Int) (q : TabQ) : List Ast := [box b 226 [.slice q.2.1 q.1.length q.2.2.1, .slice q.2.2.2.2.1 q.2.2.2.1.length q.2.2.2.2.2, .slice none 0 0, .int .i64 (x.length : Nat)],
  own 21 1 q.2.1 q.1.length q.2.2.1 (i32s q.1), own 228 2 q.2.2.2.2.1 q.2.2.2.1.length q.2.2.2.2.2 (spanC q.2.2.2.1)]
def tabF (b : Nat) (x : List Int) (m : Nat) (q : TabQ) : Ast := andA (tabOk q.1 q.2.2.2.1 x m) (seps (tabL b x q))
def tabA (b : Nat) (x : List Int) (m : Nat) : Ast := exA (tabF b x m)
theorem Ent.tab_in {b : Nat} {x : List Int} {m : Nat} (q : TabQ) (h : tabOk q.1 q.2.2.2.1 x m) (L : List Ast) : Ent (tabL b x q ++ L) (tabA b x m :: L) :=
  (Ent.seps_in (tabL b x q) L).trans ((Ent.andA_in h _ _).trans (Ent.exA_in (tabF b x m) q L))
theorem W_tab {X : Cx} {k : List It} {F : Fr} {L : List Ast} {b : Nat} {x : List Int} {m : Nat}
    (h : ∀ S sA sc R rA rc, tabOk S R x m → W X k F (box b 226 [.slice sA S.length sc, .slice rA R.length rc, .slice none 0 0, .int .i64 (x.length : Nat)] :: own 21 1 sA S.length sc (i32s S) :: own 228 2 rA R.length rc (spanC R) :: L)) : W X k F (tabA b x m :: L) :=
  W_exA fun q => W_andA fun hq => W_seps (h q.1 q.2.1 q.2.2.1 q.2.2.2.1 q.2.2.2.2.1 q.2.2.2.2.2 hq)

set_option maxHeartbeats 400000 in
theorem pieceNew_no (w : World) (A0 : Option Addr) (c0 : Nat) (xs : List Int) (hb : 65536 < xs.length) : Val Try.prog 105 [.slice A0 xs.length c0] w (.pointer none) := by
  refine enterF Try.func105 rfl Try.ntmps105 rfl rfl ?_
  repeat first
    | refine W_seq ?_
    | refine W_skip ?_
    | refine W_block ?_
    | refine W_blk ?_
    | refine W_exit (by rfl) ?_
    | refine W_region (by rfl) ?_
    | refine W_opsnil ?_
    | refine W_pure TOk (by rfl) (by first | trivial | (simp only [okI, and_true, true_and, and_self] <;> omega)) ?_
    | refine W_on (by rfl) (by rfl) (by rfl) ?_
    | refine W_off (by rfl) (by rfl) (by rfl) (by rfl) (by rfl) ?_
    | refine W_offU (by rfl) (by rfl) (by rfl) (by rfl) ?_
    | refine W_cond_t (by rfl) ?_
    | refine W_cond_f (by rfl) ?_
  refine W_cond_d (by rfl) (fun h => ?_) (fun h => absurd (show (65536 : Int) < xs.length by omega) h)
  repeat first
    | refine W_seq ?_
    | refine W_skip ?_
    | refine W_block ?_
    | refine W_blk ?_
    | refine W_exit (by rfl) ?_
    | refine W_region (by rfl) ?_
    | refine W_opsnil ?_
    | refine W_pure TOk (by rfl) (by first | trivial | (simp only [okI, and_true, true_and, and_self] <;> omega)) ?_
    | refine W_on (by rfl) (by rfl) (by rfl) ?_
    | refine W_off (by rfl) (by rfl) (by rfl) (by rfl) (by rfl) ?_
    | refine W_offU (by rfl) (by rfl) (by rfl) (by rfl) ?_
    | refine W_cond_t (by rfl) ?_
    | refine W_cond_f (by rfl) ?_
  exact W_retF (vs := [_]) ⟨rfl, trivial⟩ (Ent.refl _) ⟨rfl, rfl⟩
set_option maxHeartbeats 400000 in
theorem pieceNew_c (w : World) (A0 : Option Addr) (c0 : Nat) (xs : List Int) (hx : Cells w A0 (i32s xs)) (hb : xs.length ≤ 65536) :
    Fresh Try.prog 105 [.slice A0 xs.length c0] w (fun v M => ∃ b, v = .pointer (some ⟨b, 0, none⟩) ∧ M = [tabA b xs xs.length]) := by
  refine enterF Try.func105 rfl Try.ntmps105 rfl rfl ?_
  repeat first
    | refine W_seq ?_
    | refine W_skip ?_
    | refine W_block ?_
    | refine W_blk ?_
    | refine W_exit (by rfl) ?_
    | refine W_region (by rfl) ?_
    | refine W_opsnil ?_
    | refine W_pure TOk (by rfl) (by first | trivial | (simp only [okI, and_true, true_and, and_self] <;> omega)) ?_
    | refine W_on (by rfl) (by rfl) (by rfl) ?_
    | refine W_off (by rfl) (by rfl) (by rfl) (by rfl) (by rfl) ?_
    | refine W_offU (by rfl) (by rfl) (by rfl) (by rfl) ?_
    | refine W_cond_t (by rfl) ?_
    | refine W_cond_f (by rfl) ?_
  refine W_cond_d (by rfl) (fun h => absurd h (by omega)) (fun h => ?_)
  repeat first
    | refine W_seq ?_
    | refine W_skip ?_
    | refine W_block ?_
    | refine W_blk ?_
    | refine W_exit (by rfl) ?_
    | refine W_region (by rfl) ?_
    | refine W_opsnil ?_
    | refine W_pure TOk (by rfl) (by first | trivial | (simp only [okI, and_true, true_and, and_self] <;> omega)) ?_
    | refine W_on (by rfl) (by rfl) (by rfl) ?_
    | refine W_off (by rfl) (by rfl) (by rfl) (by rfl) (by rfl) ?_
    | refine W_offU (by rfl) (by rfl) (by rfl) (by rfl) ?_
    | refine W_cond_t (by rfl) ?_
    | refine W_cond_f (by rfl) ?_
  refine W_append_zero TOk (by rfl) (by rfl) (by rfl) (by first | exact sl48 | exact sl22 | exact sl136 | exact sl150 | exact sl223 | exact sl29 | exact sl132 | exact sl207) (fun w1 hw => hx.below hw.below) (by simp [i32s_length, i64s_length]) (by unfold maxLen; omega) (by omega) (fun A1 c1 => ?_)
  repeat first
    | refine W_seq ?_
    | refine W_skip ?_
    | refine W_block ?_
    | refine W_blk ?_
    | refine W_exit (by rfl) ?_
    | refine W_region (by rfl) ?_
    | refine W_opsnil ?_
    | refine W_pure TOk (by rfl) (by first | trivial | (simp only [okI, and_true, true_and, and_self] <;> omega)) ?_
    | refine W_on (by rfl) (by rfl) (by rfl) ?_
    | refine W_off (by rfl) (by rfl) (by rfl) (by rfl) (by rfl) ?_
    | refine W_offU (by rfl) (by rfl) (by rfl) (by rfl) ?_
    | refine W_cond_t (by rfl) ?_
    | refine W_cond_f (by rfl) ?_
  refine W_box (cs := [_, _, _, _]) (by rfl) (by rfl) (by rfl) (fun b => ?_)
  repeat first
    | refine W_seq ?_
    | refine W_skip ?_
    | refine W_block ?_
    | refine W_blk ?_
    | refine W_exit (by rfl) ?_
    | refine W_region (by rfl) ?_
    | refine W_opsnil ?_
    | refine W_pure TOk (by rfl) (by first | trivial | (simp only [okI, and_true, true_and, and_self] <;> omega)) ?_
    | refine W_on (by rfl) (by rfl) (by rfl) ?_
    | refine W_off (by rfl) (by rfl) (by rfl) (by rfl) (by rfl) ?_
    | refine W_offU (by rfl) (by rfl) (by rfl) (by rfl) ?_
    | refine W_cond_t (by rfl) ?_
    | refine W_cond_f (by rfl) ?_
  refine W_cond_d (by rfl) (fun hp => ?_) (fun hz => ?_)
  · repeat first
      | refine W_seq ?_
      | refine W_skip ?_
      | refine W_block ?_
      | refine W_blk ?_
      | refine W_exit (by rfl) ?_
      | refine W_region (by rfl) ?_
      | refine W_opsnil ?_
      | refine W_pure TOk (by rfl) (by first | trivial | (simp only [okI, and_true, true_and, and_self] <;> omega)) ?_
      | refine W_on (by rfl) (by rfl) (by rfl) ?_
      | refine W_off (by rfl) (by rfl) (by rfl) (by rfl) (by rfl) ?_
      | refine W_offU (by rfl) (by rfl) (by rfl) (by rfl) ?_
      | refine W_cond_t (by rfl) ?_
      | refine W_cond_f (by rfl) ?_
    refine W_lit TOk (cs := [_, _]) (by rfl) sl223 (by rfl) (by rfl) (by rfl) (by rfl) (fun g => ?_)
    repeat first
      | refine W_seq ?_
      | refine W_skip ?_
      | refine W_block ?_
      | refine W_blk ?_
      | refine W_exit (by rfl) ?_
      | refine W_region (by rfl) ?_
      | refine W_opsnil ?_
      | refine W_pure TOk (by rfl) (by first | trivial | (simp only [okI, and_true, true_and, and_self] <;> omega)) ?_
      | refine W_on (by rfl) (by rfl) (by rfl) ?_
      | refine W_off (by rfl) (by rfl) (by rfl) (by rfl) (by rfl) ?_
      | refine W_offU (by rfl) (by rfl) (by rfl) (by rfl) ?_
      | refine W_cond_t (by rfl) ?_
      | refine W_cond_f (by rfl) ?_
      | refine W_load_box 0 TOk (by rfl) (by rfl) (by rfl) (by rfl) (by rfl) ?_
      | refine W_load_box 1 TOk (by rfl) (by rfl) (by rfl) (by rfl) (by rfl) ?_
      | refine W_load_boxN 0 TOk (by rfl) (by rfl) (by rfl) (by rfl) (by rfl) ?_
      | refine W_load_boxN 1 TOk (by rfl) (by rfl) (by rfl) (by rfl) (by rfl) ?_
      | (refine W_store_box 0 TOk (by rfl) (by rfl) (by rfl) (by rfl) (by rfl) (by rfl) ?_; dsimp only [setL, putL, vcells])
      | (refine W_store_box 1 TOk (by rfl) (by rfl) (by rfl) (by rfl) (by rfl) (by rfl) ?_; dsimp only [setL, putL, vcells])
    refine W_retF (vs := [_]) ⟨rfl, trivial⟩ (M := [tabA b xs xs.length]) ?_ ⟨b, rfl, rfl⟩
    refine (Ent.pk 1 (by rfl)).trans ?_
    refine (Ent.cons _ (Ent.swap _ _ _)).trans (Ent.tab_in (xs, A1, c1, [(0, xs.length)], some ⟨g, 0, none⟩, 1) ⟨by simp, hb, ?_, ?_⟩ [])
    · intro p hp1
      have : p = (0, xs.length) := by simpa using hp1
      subst this
      dsimp only
      omega
    · simp [flatS]
  · repeat first
      | refine W_seq ?_
      | refine W_skip ?_
      | refine W_block ?_
      | refine W_blk ?_
      | refine W_exit (by rfl) ?_
      | refine W_region (by rfl) ?_
      | refine W_opsnil ?_
      | refine W_pure TOk (by rfl) (by first | trivial | (simp only [okI, and_true, true_and, and_self] <;> omega)) ?_
      | refine W_on (by rfl) (by rfl) (by rfl) ?_
      | refine W_off (by rfl) (by rfl) (by rfl) (by rfl) (by rfl) ?_
      | refine W_offU (by rfl) (by rfl) (by rfl) (by rfl) ?_
      | refine W_cond_t (by rfl) ?_
      | refine W_cond_f (by rfl) ?_
    have e : xs = [] := List.eq_nil_of_length_eq_zero (by omega)
    subst e
    refine W_retF (vs := [_]) ⟨rfl, trivial⟩ (M := [tabA b [] 0]) ?_ ⟨b, rfl, rfl⟩
    refine Ent.trans ?_ (Ent.tab_in ([], A1, c1, [], none, 0) (show tabOk [] [] [] 0 from ⟨by simp, by simp, fun p hp => by simp at hp, rfl⟩) [])
    exact (Ent.own_zero 228 2 none _).trans ((Ent.swap _ _ _).trans (Ent.cons _ (Ent.swap _ _ _)))

/-! ### Lines joined by the program -/
def JoinR (xss : List (List Int)) (v : Value) (M : List Ast) : Prop :=
  (plainL xss = false ∧ v = .tuple #[.slice none 0 0, .bool false] ∧ M = []) ∨ (plainL xss = true ∧ ∃ A c, v = .tuple #[.slice A (joinL xss).length c, .bool true] ∧ M = [own 21 1 A (joinL xss).length c (i32s (joinL xss))])
set_option maxHeartbeats 1000000 in
theorem joined_c (w : World) (A0 : Option Addr) (c0 : Nat) (xss : List (List Int)) (hl : RowsAt w A0 xss) (hb : xss.length + tot xss ≤ 1099511627776) :
    Fresh Try.prog 104 [.slice A0 xss.length c0] w (JoinR xss) := by
  refine enterF Try.func104 rfl Try.ntmps104 rfl rfl ?_
  repeat first
    | refine W_seq ?_
    | refine W_skip ?_
    | refine W_block ?_
    | refine W_blk ?_
    | refine W_exit (by rfl) ?_
    | refine W_region (by rfl) ?_
    | refine W_opsnil ?_
    | refine W_pure TOk (by rfl) (by first | trivial | (simp only [okI, and_true, true_and, and_self] <;> omega)) ?_
    | refine W_on (by rfl) (by rfl) (by rfl) ?_
    | refine W_off (by rfl) (by rfl) (by rfl) (by rfl) (by rfl) ?_
    | refine W_offU (by rfl) (by rfl) (by rfl) (by rfl) ?_
    | refine W_cond_t (by rfl) ?_
    | refine W_cond_f (by rfl) ?_
  refine W_loop (ι := Nat × Option Addr × Nat) (fun q => [(9, .slice A0 xss.length c0), (10, .int .i64 (xss.length : Nat)), (11, .int .i64 (q.1 : Nat)), (4, .slice q.2.1 (joinL (xss.take q.1)).length q.2.2)]) (fun q => [own 21 1 q.2.1 (joinL (xss.take q.1)).length q.2.2 (i32s (joinL (xss.take q.1)))])
    (fun q => q.1 ≤ xss.length ∧ plainL (xss.take q.1) = true) (fun q => xss.length - q.1) (0, none, 0) ⟨by dsimp only; omega, rfl⟩ ⟨rfl, rfl, rfl, rfl, trivial⟩ (Ent.own_zero _ _ _ _) ?_
  rintro ⟨k, A, c⟩ ⟨hk, hpl⟩
  dsimp only at hk hpl ⊢
  have hjl : (joinL (xss.take k)).length ≤ xss.length + tot xss := by
    rw [joinL_length]; unfold runes; have := tot_take xss k; simp; omega
  repeat first
    | refine W_seq ?_
    | refine W_skip ?_
    | refine W_block ?_
    | refine W_blk ?_
    | refine W_exit (by rfl) ?_
    | refine W_region (by rfl) ?_
    | refine W_opsnil ?_
    | refine W_pure TOk (by rfl) (by first | trivial | (simp only [okI, and_true, true_and, and_self] <;> omega)) ?_
    | refine W_on (by rfl) (by rfl) (by rfl) ?_
    | refine W_off (by rfl) (by rfl) (by rfl) (by rfl) (by rfl) ?_
    | refine W_offU (by rfl) (by rfl) (by rfl) (by rfl) ?_
    | refine W_cond_t (by rfl) ?_
    | refine W_cond_f (by rfl) ?_
  refine W_cond_d (by rfl) (fun hlt => ?_) (fun hge => ?_)
  · obtain ⟨B, cB, hcB, hB, hvs⟩ := hl.row (i := (k : Int)) (by omega) hlt
    have hrl := row_len_le xss (i := (k : Int)) (by omega) hlt
    have hg := rw_get (xss := xss) (i := (k : Int)) (by omega) hlt
    rw [show ((k : Int)).toNat = k by omega] at hg
    repeat first
      | refine W_seq ?_
      | refine W_skip ?_
      | refine W_block ?_
      | refine W_blk ?_
      | refine W_exit (by rfl) ?_
      | refine W_region (by rfl) ?_
      | refine W_opsnil ?_
      | refine W_pure TOk (by rfl) (by first | trivial | (simp only [okI, and_true, true_and, and_self] <;> omega)) ?_
      | refine W_on (by rfl) (by rfl) (by rfl) ?_
      | refine W_off (by rfl) (by rfl) (by rfl) (by rfl) (by rfl) ?_
      | refine W_offU (by rfl) (by rfl) (by rfl) (by rfl) ?_
      | refine W_cond_t (by rfl) ?_
      | refine W_cond_f (by rfl) ?_
    refine W_index TOk (by rfl) (by rfl) (by rfl) (by first | exact es48 | exact es22 | exact es136 | exact es150 | exact es223 | exact es29 | exact es132 | exact es207) (by omega) (by omega) (fun w1 hw => (hl.below hw.below).isSome (by omega)) ?_
    refine W_load TOk (by rfl) (by rfl) (by rfl) (fun w1 hw => cells_elem1 hvs hw.below) ?_
    repeat first
      | refine W_seq ?_
      | refine W_skip ?_
      | refine W_block ?_
      | refine W_blk ?_
      | refine W_exit (by rfl) ?_
      | refine W_region (by rfl) ?_
      | refine W_opsnil ?_
      | refine W_pure TOk (by rfl) (by first | trivial | (simp only [okI, and_true, true_and, and_self] <;> omega)) ?_
      | refine W_on (by rfl) (by rfl) (by rfl) ?_
      | refine W_off (by rfl) (by rfl) (by rfl) (by rfl) (by rfl) ?_
      | refine W_offU (by rfl) (by rfl) (by rfl) (by rfl) ?_
      | refine W_cond_t (by rfl) ?_
      | refine W_cond_f (by rfl) ?_
    refine W_cond_d (by rfl) (fun hpos => ?_) (fun h0 => ?_)
    · repeat first
        | refine W_seq ?_
        | refine W_skip ?_
        | refine W_block ?_
        | refine W_blk ?_
        | refine W_exit (by rfl) ?_
        | refine W_region (by rfl) ?_
        | refine W_opsnil ?_
        | refine W_pure TOk (by rfl) (by first | trivial | (simp only [okI, and_true, true_and, and_self] <;> omega)) ?_
        | refine W_on (by rfl) (by rfl) (by rfl) ?_
        | refine W_off (by rfl) (by rfl) (by rfl) (by rfl) (by rfl) ?_
        | refine W_offU (by rfl) (by rfl) (by rfl) (by rfl) ?_
        | refine W_cond_t (by rfl) ?_
        | refine W_cond_f (by rfl) ?_
      refine W_lit TOk (cs := [_]) (by rfl) (by first | exact sl48 | exact sl22 | exact sl136 | exact sl150 | exact sl223 | exact sl29 | exact sl132 | exact sl207) (by rfl) (by rfl) (by rfl) (by rfl) (fun g1 => ?_)
      refine W_append_own 1 TOk (by rfl) (by rfl) (by rfl) (by first | exact sl48 | exact sl22 | exact sl136 | exact sl150 | exact sl223 | exact sl29 | exact sl132 | exact sl207) (by rfl) (fun w1 hw => hw.hp.cells 0 rfl) (by simp [i32s_length, i64s_length]) (by first | exact i32s_one _ | exact i64s_one _ | exact one_of _ rfl) (by unfold maxLen; omega) (by omega) (fun A2 c2 => ?_); dsimp only [setL]
      repeat first
        | refine W_seq ?_
        | refine W_skip ?_
        | refine W_block ?_
        | refine W_blk ?_
        | refine W_exit (by rfl) ?_
        | refine W_region (by rfl) ?_
        | refine W_opsnil ?_
        | refine W_pure TOk (by rfl) (by first | trivial | (simp only [okI, and_true, true_and, and_self] <;> omega)) ?_
        | refine W_on (by rfl) (by rfl) (by rfl) ?_
        | refine W_off (by rfl) (by rfl) (by rfl) (by rfl) (by rfl) ?_
        | refine W_offU (by rfl) (by rfl) (by rfl) (by rfl) ?_
        | refine W_cond_t (by rfl) ?_
        | refine W_cond_f (by rfl) ?_
      refine W_loop (ι := Nat) (fun j => [(9, .slice A0 xss.length c0), (10, .int .i64 (xss.length : Nat)), (11, .int .i64 (k : Nat)), (4, .slice A2 ((joinL (xss.take k)).length + 1) c2), (6, .slice B (rw_ xss k).length cB), (21, .slice B (rw_ xss k).length cB), (22, .int .i64 ((rw_ xss k).length : Nat)), (23, .int .i64 (j : Nat))])
        (fun _ => [own 21 1 A2 ((joinL (xss.take k)).length + 1) c2 (i32s (joinL (xss.take k)) ++ [.int .i32 10])]) (fun j => j ≤ (rw_ xss k).length ∧ noNl ((rw_ xss k).take j) = true) (fun j => (rw_ xss k).length - j) 0
        ⟨by omega, rfl⟩ ⟨rfl, rfl, rfl, rfl, rfl, rfl, rfl, rfl, trivial⟩ (Ent.drop1 _ _) ?_
      rintro j ⟨hj, hq⟩
      repeat first
        | refine W_seq ?_
        | refine W_skip ?_
        | refine W_block ?_
        | refine W_blk ?_
        | refine W_exit (by rfl) ?_
        | refine W_region (by rfl) ?_
        | refine W_opsnil ?_
        | refine W_pure TOk (by rfl) (by first | trivial | (simp only [okI, and_true, true_and, and_self] <;> omega)) ?_
        | refine W_on (by rfl) (by rfl) (by rfl) ?_
        | refine W_off (by rfl) (by rfl) (by rfl) (by rfl) (by rfl) ?_
        | refine W_offU (by rfl) (by rfl) (by rfl) (by rfl) ?_
        | refine W_cond_t (by rfl) ?_
        | refine W_cond_f (by rfl) ?_
      refine W_cond_d (by rfl) (fun hjlt => ?_) (fun hjge => ?_)
      · repeat first
          | refine W_seq ?_
          | refine W_skip ?_
          | refine W_block ?_
          | refine W_blk ?_
          | refine W_exit (by rfl) ?_
          | refine W_region (by rfl) ?_
          | refine W_opsnil ?_
          | refine W_pure TOk (by rfl) (by first | trivial | (simp only [okI, and_true, true_and, and_self] <;> omega)) ?_
          | refine W_on (by rfl) (by rfl) (by rfl) ?_
          | refine W_off (by rfl) (by rfl) (by rfl) (by rfl) (by rfl) ?_
          | refine W_offU (by rfl) (by rfl) (by rfl) (by rfl) ?_
          | refine W_cond_t (by rfl) ?_
          | refine W_cond_f (by rfl) ?_
        refine W_index TOk (by rfl) (by rfl) (by rfl) (by first | exact es48 | exact es22 | exact es136 | exact es150 | exact es223 | exact es29 | exact es132 | exact es207) (by omega) (by omega) (fun w1 hw => (hB.below hw.below).isSome (by rw [i32s_length]; omega)) ?_
        refine W_load TOk (by rfl) (by rfl) (by rfl) (fun w1 hw => (hB.below hw.below).elem1 (i32s_get (by omega) hjlt)) ?_
        repeat first
          | refine W_seq ?_
          | refine W_skip ?_
          | refine W_block ?_
          | refine W_blk ?_
          | refine W_exit (by rfl) ?_
          | refine W_region (by rfl) ?_
          | refine W_opsnil ?_
          | refine W_pure TOk (by rfl) (by first | trivial | (simp only [okI, and_true, true_and, and_self] <;> omega)) ?_
          | refine W_on (by rfl) (by rfl) (by rfl) ?_
          | refine W_off (by rfl) (by rfl) (by rfl) (by rfl) (by rfl) ?_
          | refine W_offU (by rfl) (by rfl) (by rfl) (by rfl) ?_
          | refine W_cond_t (by rfl) ?_
          | refine W_cond_f (by rfl) ?_
        refine W_cond_d (by rfl) (fun he => ?_) (fun hne => ?_)
        · repeat first
            | refine W_seq ?_
            | refine W_skip ?_
            | refine W_block ?_
            | refine W_blk ?_
            | refine W_exit (by rfl) ?_
            | refine W_region (by rfl) ?_
            | refine W_opsnil ?_
            | refine W_pure TOk (by rfl) (by first | trivial | (simp only [okI, and_true, true_and, and_self] <;> omega)) ?_
            | refine W_on (by rfl) (by rfl) (by rfl) ?_
            | refine W_off (by rfl) (by rfl) (by rfl) (by rfl) (by rfl) ?_
            | refine W_offU (by rfl) (by rfl) (by rfl) (by rfl) ?_
            | refine W_cond_t (by rfl) ?_
            | refine W_cond_f (by rfl) ?_
          exact W_retF (vs := [_, _]) ⟨rfl, rfl, trivial⟩ (Ent.nil _) (.inl ⟨plain_false (i := k) (by omega) (noNl_false (k := j) (by omega) he), rfl, rfl⟩)
        · repeat first
            | refine W_seq ?_
            | refine W_skip ?_
            | refine W_block ?_
            | refine W_blk ?_
            | refine W_exit (by rfl) ?_
            | refine W_region (by rfl) ?_
            | refine W_opsnil ?_
            | refine W_pure TOk (by rfl) (by first | trivial | (simp only [okI, and_true, true_and, and_self] <;> omega)) ?_
            | refine W_on (by rfl) (by rfl) (by rfl) ?_
            | refine W_off (by rfl) (by rfl) (by rfl) (by rfl) (by rfl) ?_
            | refine W_offU (by rfl) (by rfl) (by rfl) (by rfl) ?_
            | refine W_cond_t (by rfl) ?_
            | refine W_cond_f (by rfl) ?_
          exact W_inv (j + 1) ⟨by omega, noNl_take_succ (by omega) hq hne⟩ (by omega) ⟨rfl, rfl, rfl, rfl, rfl, rfl, rfl, rfl, trivial⟩ (Ent.refl _)
      · repeat first
          | refine W_seq ?_
          | refine W_skip ?_
          | refine W_block ?_
          | refine W_blk ?_
          | refine W_exit (by rfl) ?_
          | refine W_region (by rfl) ?_
          | refine W_opsnil ?_
          | refine W_pure TOk (by rfl) (by first | trivial | (simp only [okI, and_true, true_and, and_self] <;> omega)) ?_
          | refine W_on (by rfl) (by rfl) (by rfl) ?_
          | refine W_off (by rfl) (by rfl) (by rfl) (by rfl) (by rfl) ?_
          | refine W_offU (by rfl) (by rfl) (by rfl) (by rfl) ?_
          | refine W_cond_t (by rfl) ?_
          | refine W_cond_f (by rfl) ?_
        refine W_append_own 0 TOk (by rfl) (by rfl) (by rfl) (by first | exact sl48 | exact sl22 | exact sl136 | exact sl150 | exact sl223 | exact sl29 | exact sl132 | exact sl207) (by rfl) (fun w1 hw => hB.below hw.below) (by simp [i32s_length, i64s_length]) (by first | exact i32s_one _ | exact i64s_one _ | exact one_of _ rfl) (by unfold maxLen; omega) (by omega) (fun A3 c3 => ?_); dsimp only [setL]
        repeat first
          | refine W_seq ?_
          | refine W_skip ?_
          | refine W_block ?_
          | refine W_blk ?_
          | refine W_exit (by rfl) ?_
          | refine W_region (by rfl) ?_
          | refine W_opsnil ?_
          | refine W_pure TOk (by rfl) (by first | trivial | (simp only [okI, and_true, true_and, and_self] <;> omega)) ?_
          | refine W_on (by rfl) (by rfl) (by rfl) ?_
          | refine W_off (by rfl) (by rfl) (by rfl) (by rfl) (by rfl) ?_
          | refine W_offU (by rfl) (by rfl) (by rfl) (by rfl) ?_
          | refine W_cond_t (by rfl) ?_
          | refine W_cond_f (by rfl) ?_
        have e := joinL_take hg (by omega)
        have ej : j = (rw_ xss k).length := by omega
        rw [ej, List.take_length] at hq
        refine W_inv (k + 1, A3, c3) ⟨by dsimp only; omega, plain_take_succ (by omega) hpl hq⟩ (by dsimp only; omega) ⟨rfl, rfl, rfl, ?_, trivial⟩ ?_
        · dsimp only; rw [e, List.length_append, List.length_cons]
          show some (Value.slice _ _ _) = some (Value.slice _ _ _)
          congr 2; omega
        · dsimp only
          exact Ent.own_cast (by rw [e, List.length_append, List.length_cons]; omega) (by rw [e]; simp [i32s]) _
    · have hk0 : k = 0 := by omega
      subst hk0
      repeat first
        | refine W_seq ?_
        | refine W_skip ?_
        | refine W_block ?_
        | refine W_blk ?_
        | refine W_exit (by rfl) ?_
        | refine W_region (by rfl) ?_
        | refine W_opsnil ?_
        | refine W_pure TOk (by rfl) (by first | trivial | (simp only [okI, and_true, true_and, and_self] <;> omega)) ?_
        | refine W_on (by rfl) (by rfl) (by rfl) ?_
        | refine W_off (by rfl) (by rfl) (by rfl) (by rfl) (by rfl) ?_
        | refine W_offU (by rfl) (by rfl) (by rfl) (by rfl) ?_
        | refine W_cond_t (by rfl) ?_
        | refine W_cond_f (by rfl) ?_
      refine W_loop (ι := Nat) (fun j => [(9, .slice A0 xss.length c0), (10, .int .i64 (xss.length : Nat)), (11, .int .i64 (0 : Nat)), (4, .slice A (joinL (xss.take 0)).length c), (6, .slice B (rw_ xss (0 : Nat)).length cB), (21, .slice B (rw_ xss (0 : Nat)).length cB), (22, .int .i64 ((rw_ xss (0 : Nat)).length : Nat)), (23, .int .i64 (j : Nat))])
        (fun _ => [own 21 1 A (joinL (xss.take 0)).length c (i32s (joinL (xss.take 0)))]) (fun j => j ≤ (rw_ xss (0 : Nat)).length ∧ noNl ((rw_ xss (0 : Nat)).take j) = true) (fun j => (rw_ xss (0 : Nat)).length - j) 0
        ⟨by omega, rfl⟩ ⟨rfl, rfl, rfl, rfl, rfl, rfl, rfl, rfl, trivial⟩ (Ent.refl _) ?_
      rintro j ⟨hj, hq⟩
      repeat first
        | refine W_seq ?_
        | refine W_skip ?_
        | refine W_block ?_
        | refine W_blk ?_
        | refine W_exit (by rfl) ?_
        | refine W_region (by rfl) ?_
        | refine W_opsnil ?_
        | refine W_pure TOk (by rfl) (by first | trivial | (simp only [okI, and_true, true_and, and_self] <;> omega)) ?_
        | refine W_on (by rfl) (by rfl) (by rfl) ?_
        | refine W_off (by rfl) (by rfl) (by rfl) (by rfl) (by rfl) ?_
        | refine W_offU (by rfl) (by rfl) (by rfl) (by rfl) ?_
        | refine W_cond_t (by rfl) ?_
        | refine W_cond_f (by rfl) ?_
      refine W_cond_d (by rfl) (fun hjlt => ?_) (fun hjge => ?_)
      · repeat first
          | refine W_seq ?_
          | refine W_skip ?_
          | refine W_block ?_
          | refine W_blk ?_
          | refine W_exit (by rfl) ?_
          | refine W_region (by rfl) ?_
          | refine W_opsnil ?_
          | refine W_pure TOk (by rfl) (by first | trivial | (simp only [okI, and_true, true_and, and_self] <;> omega)) ?_
          | refine W_on (by rfl) (by rfl) (by rfl) ?_
          | refine W_off (by rfl) (by rfl) (by rfl) (by rfl) (by rfl) ?_
          | refine W_offU (by rfl) (by rfl) (by rfl) (by rfl) ?_
          | refine W_cond_t (by rfl) ?_
          | refine W_cond_f (by rfl) ?_
        refine W_index TOk (by rfl) (by rfl) (by rfl) (by first | exact es48 | exact es22 | exact es136 | exact es150 | exact es223 | exact es29 | exact es132 | exact es207) (by omega) (by omega) (fun w1 hw => (hB.below hw.below).isSome (by rw [i32s_length]; omega)) ?_
        refine W_load TOk (by rfl) (by rfl) (by rfl) (fun w1 hw => (hB.below hw.below).elem1 (i32s_get (by omega) hjlt)) ?_
        repeat first
          | refine W_seq ?_
          | refine W_skip ?_
          | refine W_block ?_
          | refine W_blk ?_
          | refine W_exit (by rfl) ?_
          | refine W_region (by rfl) ?_
          | refine W_opsnil ?_
          | refine W_pure TOk (by rfl) (by first | trivial | (simp only [okI, and_true, true_and, and_self] <;> omega)) ?_
          | refine W_on (by rfl) (by rfl) (by rfl) ?_
          | refine W_off (by rfl) (by rfl) (by rfl) (by rfl) (by rfl) ?_
          | refine W_offU (by rfl) (by rfl) (by rfl) (by rfl) ?_
          | refine W_cond_t (by rfl) ?_
          | refine W_cond_f (by rfl) ?_
        refine W_cond_d (by rfl) (fun he => ?_) (fun hne => ?_)
        · repeat first
            | refine W_seq ?_
            | refine W_skip ?_
            | refine W_block ?_
            | refine W_blk ?_
            | refine W_exit (by rfl) ?_
            | refine W_region (by rfl) ?_
            | refine W_opsnil ?_
            | refine W_pure TOk (by rfl) (by first | trivial | (simp only [okI, and_true, true_and, and_self] <;> omega)) ?_
            | refine W_on (by rfl) (by rfl) (by rfl) ?_
            | refine W_off (by rfl) (by rfl) (by rfl) (by rfl) (by rfl) ?_
            | refine W_offU (by rfl) (by rfl) (by rfl) (by rfl) ?_
            | refine W_cond_t (by rfl) ?_
            | refine W_cond_f (by rfl) ?_
          exact W_retF (vs := [_, _]) ⟨rfl, rfl, trivial⟩ (Ent.nil _) (.inl ⟨plain_false (i := 0) (by omega) (noNl_false (k := j) (by omega) he), rfl, rfl⟩)
        · repeat first
            | refine W_seq ?_
            | refine W_skip ?_
            | refine W_block ?_
            | refine W_blk ?_
            | refine W_exit (by rfl) ?_
            | refine W_region (by rfl) ?_
            | refine W_opsnil ?_
            | refine W_pure TOk (by rfl) (by first | trivial | (simp only [okI, and_true, true_and, and_self] <;> omega)) ?_
            | refine W_on (by rfl) (by rfl) (by rfl) ?_
            | refine W_off (by rfl) (by rfl) (by rfl) (by rfl) (by rfl) ?_
            | refine W_offU (by rfl) (by rfl) (by rfl) (by rfl) ?_
            | refine W_cond_t (by rfl) ?_
            | refine W_cond_f (by rfl) ?_
          exact W_inv (j + 1) ⟨by omega, noNl_take_succ (by omega) hq hne⟩ (by omega) ⟨rfl, rfl, rfl, rfl, rfl, rfl, rfl, rfl, trivial⟩ (Ent.refl _)
      · repeat first
          | refine W_seq ?_
          | refine W_skip ?_
          | refine W_block ?_
          | refine W_blk ?_
          | refine W_exit (by rfl) ?_
          | refine W_region (by rfl) ?_
          | refine W_opsnil ?_
          | refine W_pure TOk (by rfl) (by first | trivial | (simp only [okI, and_true, true_and, and_self] <;> omega)) ?_
          | refine W_on (by rfl) (by rfl) (by rfl) ?_
          | refine W_off (by rfl) (by rfl) (by rfl) (by rfl) (by rfl) ?_
          | refine W_offU (by rfl) (by rfl) (by rfl) (by rfl) ?_
          | refine W_cond_t (by rfl) ?_
          | refine W_cond_f (by rfl) ?_
        refine W_append_own 0 TOk (by rfl) (by rfl) (by rfl) (by first | exact sl48 | exact sl22 | exact sl136 | exact sl150 | exact sl223 | exact sl29 | exact sl132 | exact sl207) (by rfl) (fun w1 hw => hB.below hw.below) (by simp [i32s_length, i64s_length]) (by first | exact i32s_one _ | exact i64s_one _ | exact one_of _ rfl) (by unfold maxLen; omega) (by omega) (fun A3 c3 => ?_); dsimp only [setL]
        repeat first
          | refine W_seq ?_
          | refine W_skip ?_
          | refine W_block ?_
          | refine W_blk ?_
          | refine W_exit (by rfl) ?_
          | refine W_region (by rfl) ?_
          | refine W_opsnil ?_
          | refine W_pure TOk (by rfl) (by first | trivial | (simp only [okI, and_true, true_and, and_self] <;> omega)) ?_
          | refine W_on (by rfl) (by rfl) (by rfl) ?_
          | refine W_off (by rfl) (by rfl) (by rfl) (by rfl) (by rfl) ?_
          | refine W_offU (by rfl) (by rfl) (by rfl) (by rfl) ?_
          | refine W_cond_t (by rfl) ?_
          | refine W_cond_f (by rfl) ?_
        have e := joinL_take0 hg
        have ej : j = (rw_ xss (0 : Nat)).length := by omega
        rw [ej, List.take_length] at hq
        refine W_inv (0 + 1, A3, c3) ⟨by dsimp only; omega, plain_take_succ (by omega) hpl hq⟩ (by dsimp only; omega) ⟨rfl, rfl, rfl, ?_, trivial⟩ ?_
        · dsimp only; rw [e]; simp [joinL]; rfl
        · dsimp only
          exact Ent.own_cast (by rw [e]; simp [joinL]) (by rw [e]; simp [joinL, i32s]) _
  · repeat first
      | refine W_seq ?_
      | refine W_skip ?_
      | refine W_block ?_
      | refine W_blk ?_
      | refine W_exit (by rfl) ?_
      | refine W_region (by rfl) ?_
      | refine W_opsnil ?_
      | refine W_pure TOk (by rfl) (by first | trivial | (simp only [okI, and_true, true_and, and_self] <;> omega)) ?_
      | refine W_on (by rfl) (by rfl) (by rfl) ?_
      | refine W_off (by rfl) (by rfl) (by rfl) (by rfl) (by rfl) ?_
      | refine W_offU (by rfl) (by rfl) (by rfl) (by rfl) ?_
      | refine W_cond_t (by rfl) ?_
      | refine W_cond_f (by rfl) ?_
    have e : k = xss.length := by omega
    subst e
    rw [List.take_length] at hpl ⊢
    exact W_retF (vs := [_, _]) ⟨rfl, rfl, trivial⟩ (Ent.refl _) (.inr ⟨hpl, A, c, rfl, rfl⟩)
end Go.Proofs.Ytdfibmbedjpcgaa
