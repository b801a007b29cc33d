/- TextSwaps: lines that are put in the place of others, and the others in theirs, leave all as it was. -/
import Derived.Test.YtdfibmbedjpcgaaLo
set_option linter.unusedVariables false
set_option linter.unusedSimpArgs false
namespace Go.Proofs.Ytdfibmbedjpcgaa
open Go Go.RowKit Eng Ls
attribute [local irreducible] Eng.W

theorem mid_get {α : Type} {p m s : List α} {k : Nat} (hk : k < m.length) : (p ++ m ++ s)[p.length + k]? = m[k]? := by
  rw [List.append_assoc, List.getElem?_append_right (by omega), Nat.add_sub_cancel_left, List.getElem?_append_left hk]
theorem swap_back {α : Type} {l m : List α} {i n : Nat} (h : i + n ≤ l.length) : (l.take i ++ m ++ l.drop (i + n)).take i ++ (l.drop i).take n ++ (l.take i ++ m ++ l.drop (i + n)).drop (i + m.length) = l := by
  have ht : (l.take i).length = i := by rw [List.length_take]; omega
  have e1 : (l.take i ++ m ++ l.drop (i + n)).take i = l.take i := by
    rw [List.append_assoc, List.take_append_of_le_length (by omega), List.take_of_length_le (by omega)]
  have e2 : (l.take i ++ m ++ l.drop (i + n)).drop (i + m.length) = l.drop (i + n) := by
    have hl : (l.take i ++ m).length = i + m.length := by rw [List.length_append, ht]
    rw [← hl, List.drop_left]
  rw [e1, e2, List.append_assoc, ← List.drop_drop, List.take_append_drop, List.take_append_drop]
set_option maxHeartbeats 8000000 in
theorem TextSwaps_c (w : World) (A0 : Option Addr) (c0 : Nat) (xss : List (List Int)) (hl : RowsAt w A0 xss) (hb : xss.length ≤ 300 → tot xss ≤ 36028797018963968) (a1 a2 : Int) (A1 : Option Addr) (c1 : Nat) (ms : List (List Int)) (hm : RowsAt w A1 ms) (hmb : ms.length ≤ 300 → tot ms ≤ 36028797018963968) (hcap : ms.length ≤ 35184372087808) :
    Val Try.prog 14 [.slice A0 xss.length c0, .agg #[.int .i64 a1, .int .i64 a2], .slice A1 ms.length c1] w (.bool true) := by
  refine enterF Try.func14 rfl Try.ntmps14 rfl rfl ?_
  repeat first
    | refine W_seq ?_
    | refine W_skip ?_
    | refine W_block ?_
    | refine W_blk ?_
    | refine W_exit (by rfl) ?_
    | refine W_region (by rfl) ?_
    | refine W_opsnil ?_
    | refine W_pure TOk (by rfl) (by first | trivial | (simp only [okI, and_true, true_and, and_self] <;> omega)) ?_
    | refine W_on (by rfl) (by rfl) (by rfl) ?_
    | refine W_off (by rfl) (by rfl) (by rfl) (by rfl) (by rfl) ?_
    | refine W_offU (by rfl) (by rfl) (by rfl) (by rfl) ?_
    | refine W_cond_t (by rfl) ?_
    | refine W_cond_f (by rfl) ?_
  refine W_box (cs := [_, _]) (by rfl) (by rfl) (by rfl) (fun b4 => ?_)
  repeat first
    | refine W_seq ?_
    | refine W_skip ?_
    | refine W_block ?_
    | refine W_blk ?_
    | refine W_exit (by rfl) ?_
    | refine W_region (by rfl) ?_
    | refine W_opsnil ?_
    | refine W_pure TOk (by rfl) (by first | trivial | (simp only [okI, and_true, true_and, and_self] <;> omega)) ?_
    | refine W_on (by rfl) (by rfl) (by rfl) ?_
    | refine W_off (by rfl) (by rfl) (by rfl) (by rfl) (by rfl) ?_
    | refine W_offU (by rfl) (by rfl) (by rfl) (by rfl) ?_
    | refine W_cond_t (by rfl) ?_
    | refine W_cond_f (by rfl) ?_
  refine W_callV (by rfl) Try.call37 (by rfl) (fun w1 hw => Small_c w1 A0 c0 xss (hl.below hw.below) hb) ?_
  repeat first
    | refine W_seq ?_
    | refine W_skip ?_
    | refine W_block ?_
    | refine W_blk ?_
    | refine W_exit (by rfl) ?_
    | refine W_region (by rfl) ?_
    | refine W_opsnil ?_
    | refine W_pure TOk (by rfl) (by first | trivial | (simp only [okI, and_true, true_and, and_self] <;> omega)) ?_
    | refine W_on (by rfl) (by rfl) (by rfl) ?_
    | refine W_off (by rfl) (by rfl) (by rfl) (by rfl) (by rfl) ?_
    | refine W_offU (by rfl) (by rfl) (by rfl) (by rfl) ?_
    | refine W_cond_t (by rfl) ?_
    | refine W_cond_f (by rfl) ?_
  refine W_dec 17 (by rfl) (fun hs => ?_) (fun hs => ?_)
  · repeat first
      | refine W_seq ?_
      | refine W_skip ?_
      | refine W_block ?_
      | refine W_blk ?_
      | refine W_exit (by rfl) ?_
      | refine W_region (by rfl) ?_
      | refine W_opsnil ?_
      | refine W_pure TOk (by rfl) (by first | trivial | (simp only [okI, and_true, true_and, and_self] <;> omega)) ?_
      | refine W_on (by rfl) (by rfl) (by rfl) ?_
      | refine W_off (by rfl) (by rfl) (by rfl) (by rfl) (by rfl) ?_
      | refine W_offU (by rfl) (by rfl) (by rfl) (by rfl) ?_
      | refine W_cond_t (by rfl) ?_
      | refine W_cond_f (by rfl) ?_
    refine W_callV (by rfl) Try.call44 (by rfl) (fun w1 hw => awake_c w1) ?_
    repeat first
      | refine W_seq ?_
      | refine W_skip ?_
      | refine W_block ?_
      | refine W_blk ?_
      | refine W_exit (by rfl) ?_
      | refine W_region (by rfl) ?_
      | refine W_opsnil ?_
      | refine W_pure TOk (by rfl) (by first | trivial | (simp only [okI, and_true, true_and, and_self] <;> omega)) ?_
      | refine W_on (by rfl) (by rfl) (by rfl) ?_
      | refine W_off (by rfl) (by rfl) (by rfl) (by rfl) (by rfl) ?_
      | refine W_offU (by rfl) (by rfl) (by rfl) (by rfl) ?_
      | refine W_cond_t (by rfl) ?_
      | refine W_cond_f (by rfl) ?_
    exact W_retF (vs := [_]) ⟨rfl, trivial⟩ (Ent.nil _) ⟨rfl, rfl⟩
  · have hsm : small xss = true := by simpa using hs
    have hsm2 : xss.length ≤ 300 ∧ runes xss ≤ 3000 := by simpa [small] using hsm
    have hru : runes xss = xss.length - 1 + tot xss := rfl
    repeat first
      | refine W_seq ?_
      | refine W_skip ?_
      | refine W_block ?_
      | refine W_blk ?_
      | refine W_exit (by rfl) ?_
      | refine W_region (by rfl) ?_
      | refine W_opsnil ?_
      | refine W_pure TOk (by rfl) (by first | trivial | (simp only [okI, and_true, true_and, and_self] <;> omega)) ?_
      | refine W_on (by rfl) (by rfl) (by rfl) ?_
      | refine W_off (by rfl) (by rfl) (by rfl) (by rfl) (by rfl) ?_
      | refine W_offU (by rfl) (by rfl) (by rfl) (by rfl) ?_
      | refine W_cond_t (by rfl) ?_
      | refine W_cond_f (by rfl) ?_
    refine W_callV (by rfl) Try.call37 (by rfl) (fun w1 hw => Small_c w1 A1 c1 ms (hm.below hw.below) hmb) ?_
    repeat first
      | refine W_seq ?_
      | refine W_skip ?_
      | refine W_block ?_
      | refine W_blk ?_
      | refine W_exit (by rfl) ?_
      | refine W_region (by rfl) ?_
      | refine W_opsnil ?_
      | refine W_pure TOk (by rfl) (by first | trivial | (simp only [okI, and_true, true_and, and_self] <;> omega)) ?_
      | refine W_on (by rfl) (by rfl) (by rfl) ?_
      | refine W_off (by rfl) (by rfl) (by rfl) (by rfl) (by rfl) ?_
      | refine W_offU (by rfl) (by rfl) (by rfl) (by rfl) ?_
      | refine W_cond_t (by rfl) ?_
      | refine W_cond_f (by rfl) ?_
    refine W_dec 22 (by rfl) (fun hs => ?_) (fun hs => ?_)
    · repeat first
        | refine W_seq ?_
        | refine W_skip ?_
        | refine W_block ?_
        | refine W_blk ?_
        | refine W_exit (by rfl) ?_
        | refine W_region (by rfl) ?_
        | refine W_opsnil ?_
        | refine W_pure TOk (by rfl) (by first | trivial | (simp only [okI, and_true, true_and, and_self] <;> omega)) ?_
        | refine W_on (by rfl) (by rfl) (by rfl) ?_
        | refine W_off (by rfl) (by rfl) (by rfl) (by rfl) (by rfl) ?_
        | refine W_offU (by rfl) (by rfl) (by rfl) (by rfl) ?_
        | refine W_cond_t (by rfl) ?_
        | refine W_cond_f (by rfl) ?_
      refine W_callV (by rfl) Try.call44 (by rfl) (fun w1 hw => awake_c w1) ?_
      repeat first
        | refine W_seq ?_
        | refine W_skip ?_
        | refine W_block ?_
        | refine W_blk ?_
        | refine W_exit (by rfl) ?_
        | refine W_region (by rfl) ?_
        | refine W_opsnil ?_
        | refine W_pure TOk (by rfl) (by first | trivial | (simp only [okI, and_true, true_and, and_self] <;> omega)) ?_
        | refine W_on (by rfl) (by rfl) (by rfl) ?_
        | refine W_off (by rfl) (by rfl) (by rfl) (by rfl) (by rfl) ?_
        | refine W_offU (by rfl) (by rfl) (by rfl) (by rfl) ?_
        | refine W_cond_t (by rfl) ?_
        | refine W_cond_f (by rfl) ?_
      exact W_retF (vs := [_]) ⟨rfl, trivial⟩ (Ent.nil _) ⟨rfl, rfl⟩
    · have hsn : small ms = true := by simpa using hs
      have hsn2 : ms.length ≤ 300 ∧ runes ms ≤ 3000 := by simpa [small] using hsn
      have hrn : runes ms = ms.length - 1 + tot ms := rfl
      repeat first
        | refine W_seq ?_
        | refine W_skip ?_
        | refine W_block ?_
        | refine W_blk ?_
        | refine W_exit (by rfl) ?_
        | refine W_region (by rfl) ?_
        | refine W_opsnil ?_
        | refine W_pure TOk (by rfl) (by first | trivial | (simp only [okI, and_true, true_and, and_self] <;> omega)) ?_
        | refine W_on (by rfl) (by rfl) (by rfl) ?_
        | refine W_off (by rfl) (by rfl) (by rfl) (by rfl) (by rfl) ?_
        | refine W_offU (by rfl) (by rfl) (by rfl) (by rfl) ?_
        | refine W_cond_t (by rfl) ?_
        | refine W_cond_f (by rfl) ?_
      refine W_cond_d (by rfl) (fun hz => ?_) (fun hz => ?_)
      · repeat first
          | refine W_seq ?_
          | refine W_skip ?_
          | refine W_block ?_
          | refine W_blk ?_
          | refine W_exit (by rfl) ?_
          | refine W_region (by rfl) ?_
          | refine W_opsnil ?_
          | refine W_pure TOk (by rfl) (by first | trivial | (simp only [okI, and_true, true_and, and_self] <;> omega)) ?_
          | refine W_on (by rfl) (by rfl) (by rfl) ?_
          | refine W_off (by rfl) (by rfl) (by rfl) (by rfl) (by rfl) ?_
          | refine W_offU (by rfl) (by rfl) (by rfl) (by rfl) ?_
          | refine W_cond_t (by rfl) ?_
          | refine W_cond_f (by rfl) ?_
        refine W_callV (by rfl) Try.call44 (by rfl) (fun w1 hw => awake_c w1) ?_
        repeat first
          | refine W_seq ?_
          | refine W_skip ?_
          | refine W_block ?_
          | refine W_blk ?_
          | refine W_exit (by rfl) ?_
          | refine W_region (by rfl) ?_
          | refine W_opsnil ?_
          | refine W_pure TOk (by rfl) (by first | trivial | (simp only [okI, and_true, true_and, and_self] <;> omega)) ?_
          | refine W_on (by rfl) (by rfl) (by rfl) ?_
          | refine W_off (by rfl) (by rfl) (by rfl) (by rfl) (by rfl) ?_
          | refine W_offU (by rfl) (by rfl) (by rfl) (by rfl) ?_
          | refine W_cond_t (by rfl) ?_
          | refine W_cond_f (by rfl) ?_
        exact W_retF (vs := [_]) ⟨rfl, trivial⟩ (Ent.nil _) ⟨rfl, rfl⟩
      · have hne : ms ≠ [] := fun h => hz (by rw [h]; rfl)
        repeat first
          | refine W_seq ?_
          | refine W_skip ?_
          | refine W_block ?_
          | refine W_blk ?_
          | refine W_exit (by rfl) ?_
          | refine W_region (by rfl) ?_
          | refine W_opsnil ?_
          | refine W_pure TOk (by rfl) (by first | trivial | (simp only [okI, and_true, true_and, and_self] <;> omega)) ?_
          | refine W_on (by rfl) (by rfl) (by rfl) ?_
          | refine W_off (by rfl) (by rfl) (by rfl) (by rfl) (by rfl) ?_
          | refine W_offU (by rfl) (by rfl) (by rfl) (by rfl) ?_
          | refine W_cond_t (by rfl) ?_
          | refine W_cond_f (by rfl) ?_
        refine W_call _ (by rfl) Try.call38 (by rfl) (fun w1 hw => New_c w1 A0 c0 xss (hl.below hw.below) (by omega)) ?_
        intro v0 M0 hj0
        rcases hj0 with ⟨hp, b, rfl, rfl⟩ | ⟨hp, rfl, rfl⟩ <;> dsimp only [List.cons_append, List.nil_append]
        · have hxl := joinL_length xss
          generalize joinL xss = x at *
          have hlp := lens_pos x
          have hll := lens_le x
          have hlsp := lens_splitL x
          have hts := tot_split x
          repeat first
            | refine W_seq ?_
            | refine W_skip ?_
            | refine W_block ?_
            | refine W_blk ?_
            | refine W_exit (by rfl) ?_
            | refine W_region (by rfl) ?_
            | refine W_opsnil ?_
            | refine W_pure TOk (by rfl) (by first | trivial | (simp only [okI, and_true, true_and, and_self] <;> omega)) ?_
            | refine W_on (by rfl) (by rfl) (by rfl) ?_
            | refine W_off (by rfl) (by rfl) (by rfl) (by rfl) (by rfl) ?_
            | refine W_offU (by rfl) (by rfl) (by rfl) (by rfl) ?_
            | refine W_cond_t (by rfl) ?_
            | refine W_cond_f (by rfl) ?_
          refine W_call _ (by rfl) Try.call38 (by rfl) (fun w1 hw => New_c w1 A1 c1 ms (hm.below hw.below) (by omega)) ?_
          intro v1 M1 hj1
          rcases hj1 with ⟨hp2, b2, rfl, rfl⟩ | ⟨hp2, rfl, rfl⟩ <;> dsimp only [List.cons_append, List.nil_append]
          · refine W_ent (Ent.drop1 _ _) ?_
            have hjm := joinL_length ms
            repeat first
              | refine W_seq ?_
              | refine W_skip ?_
              | refine W_block ?_
              | refine W_blk ?_
              | refine W_exit (by rfl) ?_
              | refine W_region (by rfl) ?_
              | refine W_opsnil ?_
              | refine W_pure TOk (by rfl) (by first | trivial | (simp only [okI, and_true, true_and, and_self] <;> omega)) ?_
              | refine W_on (by rfl) (by rfl) (by rfl) ?_
              | refine W_off (by rfl) (by rfl) (by rfl) (by rfl) (by rfl) ?_
              | refine W_offU (by rfl) (by rfl) (by rfl) (by rfl) ?_
              | refine W_cond_t (by rfl) ?_
              | refine W_cond_f (by rfl) ?_
            refine W_call _ (by rfl) Try.call65 (by rfl) (fun w1 hw => All_c w1 b x (textAt 0 hw.hp rfl)) ?_; rintro _ _ ⟨A6, c6, A7, c7, rfl, hc6, rfl⟩; dsimp only [List.cons_append, List.nil_append]
            repeat first
              | refine W_seq ?_
              | refine W_skip ?_
              | refine W_block ?_
              | refine W_blk ?_
              | refine W_exit (by rfl) ?_
              | refine W_region (by rfl) ?_
              | refine W_opsnil ?_
              | refine W_pure TOk (by rfl) (by first | trivial | (simp only [okI, and_true, true_and, and_self] <;> omega)) ?_
              | refine W_on (by rfl) (by rfl) (by rfl) ?_
              | refine W_off (by rfl) (by rfl) (by rfl) (by rfl) (by rfl) ?_
              | refine W_offU (by rfl) (by rfl) (by rfl) (by rfl) ?_
              | refine W_cond_t (by rfl) ?_
              | refine W_cond_f (by rfl) ?_
            refine W_draw (fun w1 => St _ _ w1 _) [] [(0, 0), (1, 0), (2, 0), (3, 1), (4, 0), (5, 0), (6, 0), (7, 0)] (by kernel_rfl) (fun _ h => h) (by rfl) (by kernel_rfl) (fun hB => ?_)
            repeat first
              | refine D_pure TOk (by kernel_rfl) hB (by rfl) (by rfl) (by first | trivial | (simp only [okI, and_true, true_and, and_self] <;> omega)) (fun hB => ?_)
              | refine D_done hB ?_
              | refine D_shown (fun _ h => h) ?_
              | refine D_shown (fun _ h => h.ent (Ent.drop1 _ _)) ?_
              | refine D_load_box 0 TOk (by kernel_rfl) hB (by rfl) (by rfl) (by rfl) (by rfl) (by rfl) (fun _ h => h) (by rfl) (by rfl) (fun hB => ?_)
              | refine D_load_box 1 TOk (by kernel_rfl) hB (by rfl) (by rfl) (by rfl) (by rfl) (by rfl) (fun _ h => h) (by rfl) (by rfl) (fun hB => ?_)
              | refine D_load_box 2 TOk (by kernel_rfl) hB (by rfl) (by rfl) (by rfl) (by rfl) (by rfl) (fun _ h => h) (by rfl) (by rfl) (fun hB => ?_)
              | refine D_load_box 3 TOk (by kernel_rfl) hB (by rfl) (by rfl) (by rfl) (by rfl) (by rfl) (fun _ h => h) (by rfl) (by rfl) (fun hB => ?_)
              | refine D_load_boxN 0 TOk (by kernel_rfl) hB (by rfl) (by rfl) (by rfl) (by rfl) (by rfl) (by rfl) (fun _ h => h) (by rfl) (fun hB => ?_)
              | refine D_load_boxN 1 TOk (by kernel_rfl) hB (by rfl) (by rfl) (by rfl) (by rfl) (by rfl) (by rfl) (fun _ h => h) (by rfl) (fun hB => ?_)
              | refine D_load_boxN 2 TOk (by kernel_rfl) hB (by rfl) (by rfl) (by rfl) (by rfl) (by rfl) (by rfl) (fun _ h => h) (by rfl) (fun hB => ?_)
              | refine D_load_boxN 3 TOk (by kernel_rfl) hB (by rfl) (by rfl) (by rfl) (by rfl) (by rfl) (by rfl) (fun _ h => h) (by rfl) (fun hB => ?_)
            refine D_one hB (by rfl) (fun hB => ?_)
            refine W_callV (by rfl) Try.call43 (by rfl) (fun w1 hw => Count_c w1 b x (textAt 2 hw.hp rfl)) ?_
            repeat first
              | refine W_seq ?_
              | refine W_skip ?_
              | refine W_block ?_
              | refine W_blk ?_
              | refine W_exit (by rfl) ?_
              | refine W_region (by rfl) ?_
              | refine W_opsnil ?_
              | refine W_pure TOk (by rfl) (by first | trivial | (simp only [okI, and_true, true_and, and_self] <;> omega)) ?_
              | refine W_on (by rfl) (by rfl) (by rfl) ?_
              | refine W_off (by rfl) (by rfl) (by rfl) (by rfl) (by rfl) ?_
              | refine W_offU (by rfl) (by rfl) (by rfl) (by rfl) ?_
              | refine W_cond_t (by rfl) ?_
              | refine W_cond_f (by rfl) ?_
            repeat first
              | refine D_pure TOk (by kernel_rfl) hB (by rfl) (by rfl) (by first | trivial | (simp only [okI, and_true, true_and, and_self] <;> omega)) (fun hB => ?_)
              | refine D_done hB ?_
              | refine D_shown (fun _ h => h) ?_
              | refine D_shown (fun _ h => h.ent (Ent.drop1 _ _)) ?_
              | refine D_load_box 0 TOk (by kernel_rfl) hB (by rfl) (by rfl) (by rfl) (by rfl) (by rfl) (fun _ h => h) (by rfl) (by rfl) (fun hB => ?_)
              | refine D_load_box 1 TOk (by kernel_rfl) hB (by rfl) (by rfl) (by rfl) (by rfl) (by rfl) (fun _ h => h) (by rfl) (by rfl) (fun hB => ?_)
              | refine D_load_box 2 TOk (by kernel_rfl) hB (by rfl) (by rfl) (by rfl) (by rfl) (by rfl) (fun _ h => h) (by rfl) (by rfl) (fun hB => ?_)
              | refine D_load_box 3 TOk (by kernel_rfl) hB (by rfl) (by rfl) (by rfl) (by rfl) (by rfl) (fun _ h => h) (by rfl) (by rfl) (fun hB => ?_)
              | refine D_load_boxN 0 TOk (by kernel_rfl) hB (by rfl) (by rfl) (by rfl) (by rfl) (by rfl) (by rfl) (fun _ h => h) (by rfl) (fun hB => ?_)
              | refine D_load_boxN 1 TOk (by kernel_rfl) hB (by rfl) (by rfl) (by rfl) (by rfl) (by rfl) (by rfl) (fun _ h => h) (by rfl) (fun hB => ?_)
              | refine D_load_boxN 2 TOk (by kernel_rfl) hB (by rfl) (by rfl) (by rfl) (by rfl) (by rfl) (by rfl) (fun _ h => h) (by rfl) (fun hB => ?_)
              | refine D_load_boxN 3 TOk (by kernel_rfl) hB (by rfl) (by rfl) (by rfl) (by rfl) (by rfl) (by rfl) (fun _ h => h) (by rfl) (fun hB => ?_)
            obtain ⟨i, hi, hiP⟩ : ∃ i : Nat, maxI 0 (minI a1 ((((lens x).length : Nat) : Int) - 1)) = (i : Int) ∧ i < (lens x).length := by
              refine ⟨(maxI 0 (minI a1 ((((lens x).length : Nat) : Int) - 1))).toNat, ?_, ?_⟩ <;> unfold maxI minI <;> split <;> split <;> omega
            rw [hi]
            repeat first
              | refine W_seq ?_
              | refine W_skip ?_
              | refine W_block ?_
              | refine W_blk ?_
              | refine W_exit (by rfl) ?_
              | refine W_region (by rfl) ?_
              | refine W_opsnil ?_
              | refine W_pure TOk (by rfl) (by first | trivial | (simp only [okI, and_true, true_and, and_self] <;> omega)) ?_
              | refine W_on (by rfl) (by rfl) (by rfl) ?_
              | refine W_off (by rfl) (by rfl) (by rfl) (by rfl) (by rfl) ?_
              | refine W_offU (by rfl) (by rfl) (by rfl) (by rfl) ?_
              | refine W_cond_t (by rfl) ?_
              | refine W_cond_f (by rfl) ?_
            refine W_draw (fun w1 => St _ _ w1 _) [] [(0, 0), (1, 0), (2, 0), (4, 0), (3, 1), (5, 0), (6, 0), (7, 0), (8, 0)] (by kernel_rfl) (fun _ h => h) (by rfl) (by kernel_rfl) (fun hB => ?_)
            repeat first
              | refine D_pure TOk (by kernel_rfl) hB (by rfl) (by rfl) (by first | trivial | (simp only [okI, and_true, true_and, and_self] <;> omega)) (fun hB => ?_)
              | refine D_done hB ?_
              | refine D_shown (fun _ h => h) ?_
              | refine D_shown (fun _ h => h.ent (Ent.drop1 _ _)) ?_
              | refine D_load_box 0 TOk (by kernel_rfl) hB (by rfl) (by rfl) (by rfl) (by rfl) (by rfl) (fun _ h => h) (by rfl) (by rfl) (fun hB => ?_)
              | refine D_load_box 1 TOk (by kernel_rfl) hB (by rfl) (by rfl) (by rfl) (by rfl) (by rfl) (fun _ h => h) (by rfl) (by rfl) (fun hB => ?_)
              | refine D_load_box 2 TOk (by kernel_rfl) hB (by rfl) (by rfl) (by rfl) (by rfl) (by rfl) (fun _ h => h) (by rfl) (by rfl) (fun hB => ?_)
              | refine D_load_box 3 TOk (by kernel_rfl) hB (by rfl) (by rfl) (by rfl) (by rfl) (by rfl) (fun _ h => h) (by rfl) (by rfl) (fun hB => ?_)
              | refine D_load_boxN 0 TOk (by kernel_rfl) hB (by rfl) (by rfl) (by rfl) (by rfl) (by rfl) (by rfl) (fun _ h => h) (by rfl) (fun hB => ?_)
              | refine D_load_boxN 1 TOk (by kernel_rfl) hB (by rfl) (by rfl) (by rfl) (by rfl) (by rfl) (by rfl) (fun _ h => h) (by rfl) (fun hB => ?_)
              | refine D_load_boxN 2 TOk (by kernel_rfl) hB (by rfl) (by rfl) (by rfl) (by rfl) (by rfl) (by rfl) (fun _ h => h) (by rfl) (fun hB => ?_)
              | refine D_load_boxN 3 TOk (by kernel_rfl) hB (by rfl) (by rfl) (by rfl) (by rfl) (by rfl) (by rfl) (fun _ h => h) (by rfl) (fun hB => ?_)
            refine D_one hB (by rfl) (fun hB => ?_)
            refine W_callV (by rfl) Try.call43 (by rfl) (fun w1 hw => Count_c w1 b x (textAt 2 hw.hp rfl)) ?_
            repeat first
              | refine W_seq ?_
              | refine W_skip ?_
              | refine W_block ?_
              | refine W_blk ?_
              | refine W_exit (by rfl) ?_
              | refine W_region (by rfl) ?_
              | refine W_opsnil ?_
              | refine W_pure TOk (by rfl) (by first | trivial | (simp only [okI, and_true, true_and, and_self] <;> omega)) ?_
              | refine W_on (by rfl) (by rfl) (by rfl) ?_
              | refine W_off (by rfl) (by rfl) (by rfl) (by rfl) (by rfl) ?_
              | refine W_offU (by rfl) (by rfl) (by rfl) (by rfl) ?_
              | refine W_cond_t (by rfl) ?_
              | refine W_cond_f (by rfl) ?_
            repeat first
              | refine D_pure TOk (by kernel_rfl) hB (by rfl) (by rfl) (by first | trivial | (simp only [okI, and_true, true_and, and_self] <;> omega)) (fun hB => ?_)
              | refine D_done hB ?_
              | refine D_shown (fun _ h => h) ?_
              | refine D_shown (fun _ h => h.ent (Ent.drop1 _ _)) ?_
              | refine D_load_box 0 TOk (by kernel_rfl) hB (by rfl) (by rfl) (by rfl) (by rfl) (by rfl) (fun _ h => h) (by rfl) (by rfl) (fun hB => ?_)
              | refine D_load_box 1 TOk (by kernel_rfl) hB (by rfl) (by rfl) (by rfl) (by rfl) (by rfl) (fun _ h => h) (by rfl) (by rfl) (fun hB => ?_)
              | refine D_load_box 2 TOk (by kernel_rfl) hB (by rfl) (by rfl) (by rfl) (by rfl) (by rfl) (fun _ h => h) (by rfl) (by rfl) (fun hB => ?_)
              | refine D_load_box 3 TOk (by kernel_rfl) hB (by rfl) (by rfl) (by rfl) (by rfl) (by rfl) (fun _ h => h) (by rfl) (by rfl) (fun hB => ?_)
              | refine D_load_boxN 0 TOk (by kernel_rfl) hB (by rfl) (by rfl) (by rfl) (by rfl) (by rfl) (by rfl) (fun _ h => h) (by rfl) (fun hB => ?_)
              | refine D_load_boxN 1 TOk (by kernel_rfl) hB (by rfl) (by rfl) (by rfl) (by rfl) (by rfl) (by rfl) (fun _ h => h) (by rfl) (fun hB => ?_)
              | refine D_load_boxN 2 TOk (by kernel_rfl) hB (by rfl) (by rfl) (by rfl) (by rfl) (by rfl) (by rfl) (fun _ h => h) (by rfl) (fun hB => ?_)
              | refine D_load_boxN 3 TOk (by kernel_rfl) hB (by rfl) (by rfl) (by rfl) (by rfl) (by rfl) (by rfl) (fun _ h => h) (by rfl) (fun hB => ?_)
            obtain ⟨n, hn, hn1, hnP⟩ : ∃ n : Nat, maxI 1 (minI a2 ((((lens x).length : Nat) : Int) - (i : Int))) = (n : Int) ∧ 0 < n ∧ i + n ≤ (lens x).length := by
              refine ⟨(maxI 1 (minI a2 ((((lens x).length : Nat) : Int) - (i : Int)))).toNat, ?_, ?_, ?_⟩ <;> unfold maxI minI <;> split <;> split <;> omega
            rw [hn]
            obtain ⟨x', hrep, hspl, hxl'⟩ := repS_in (x := x) (ms := ms) hn1 hnP hne hp2.1 (by omega)
            have hlx' : (lens x').length = (lens x).length - n + ms.length := by
              rw [lens_splitL x', hspl, List.length_append, List.length_append, List.length_take, List.length_drop, ← hlsp]; omega
            repeat first
              | refine W_seq ?_
              | refine W_skip ?_
              | refine W_block ?_
              | refine W_blk ?_
              | refine W_exit (by rfl) ?_
              | refine W_region (by rfl) ?_
              | refine W_opsnil ?_
              | refine W_pure TOk (by rfl) (by first | trivial | (simp only [okI, and_true, true_and, and_self] <;> omega)) ?_
              | refine W_on (by rfl) (by rfl) (by rfl) ?_
              | refine W_off (by rfl) (by rfl) (by rfl) (by rfl) (by rfl) ?_
              | refine W_offU (by rfl) (by rfl) (by rfl) (by rfl) ?_
              | refine W_cond_t (by rfl) ?_
              | refine W_cond_f (by rfl) ?_
            refine W_pick 2 (by rfl) ?_
            refine W_turn _ (by rfl) Try.call71 (by rfl) (fun w1 hw => Replace_c _ w1 b x x.length i n A1 c1 ms _ hw.le hw.hp (fun w' hb _ => hm.below (hw.below.trans hb)) (by omega) (by omega)) ?_
            rintro _ _ ⟨rfl, rfl⟩
            rw [hrep]
            have hm' : repM x.length ms ≤ 1099511627776 := by unfold repM; omega
            generalize repM x.length ms = m' at *
            repeat first
              | refine W_seq ?_
              | refine W_skip ?_
              | refine W_block ?_
              | refine W_blk ?_
              | refine W_exit (by rfl) ?_
              | refine W_region (by rfl) ?_
              | refine W_opsnil ?_
              | refine W_pure TOk (by rfl) (by first | trivial | (simp only [okI, and_true, true_and, and_self] <;> omega)) ?_
              | refine W_on (by rfl) (by rfl) (by rfl) ?_
              | refine W_off (by rfl) (by rfl) (by rfl) (by rfl) (by rfl) ?_
              | refine W_offU (by rfl) (by rfl) (by rfl) (by rfl) ?_
              | refine W_cond_t (by rfl) ?_
              | refine W_cond_f (by rfl) ?_
              | refine W_load_box 0 TOk (by rfl) (by rfl) (by rfl) (by rfl) (by rfl) ?_
              | refine W_load_box 1 TOk (by rfl) (by rfl) (by rfl) (by rfl) (by rfl) ?_
              | refine W_load_box 2 TOk (by rfl) (by rfl) (by rfl) (by rfl) (by rfl) ?_
              | refine W_load_box 3 TOk (by rfl) (by rfl) (by rfl) (by rfl) (by rfl) ?_
              | refine W_load_boxN 0 TOk (by rfl) (by rfl) (by rfl) (by rfl) (by rfl) ?_
              | refine W_load_boxN 1 TOk (by rfl) (by rfl) (by rfl) (by rfl) (by rfl) ?_
              | refine W_load_boxN 2 TOk (by rfl) (by rfl) (by rfl) (by rfl) (by rfl) ?_
              | refine W_load_boxN 3 TOk (by rfl) (by rfl) (by rfl) (by rfl) (by rfl) ?_
              | (refine W_store_box 0 TOk (by rfl) (by rfl) (by rfl) (by rfl) (by rfl) (by rfl) ?_; dsimp only [setL, putL, vcells])
              | (refine W_store_box 1 TOk (by rfl) (by rfl) (by rfl) (by rfl) (by rfl) (by rfl) ?_; dsimp only [setL, putL, vcells])
              | (refine W_store_box 2 TOk (by rfl) (by rfl) (by rfl) (by rfl) (by rfl) (by rfl) ?_; dsimp only [setL, putL, vcells])
              | (refine W_store_box 3 TOk (by rfl) (by rfl) (by rfl) (by rfl) (by rfl) (by rfl) ?_; dsimp only [setL, putL, vcells])
            refine W_callV (by rfl) Try.call43 (by rfl) (fun w1 hw => Count_c w1 b x' (textAt 0 hw.hp rfl)) ?_
            repeat first
              | refine W_seq ?_
              | refine W_skip ?_
              | refine W_block ?_
              | refine W_blk ?_
              | refine W_exit (by rfl) ?_
              | refine W_region (by rfl) ?_
              | refine W_opsnil ?_
              | refine W_pure TOk (by rfl) (by first | trivial | (simp only [okI, and_true, true_and, and_self] <;> omega)) ?_
              | refine W_on (by rfl) (by rfl) (by rfl) ?_
              | refine W_off (by rfl) (by rfl) (by rfl) (by rfl) (by rfl) ?_
              | refine W_offU (by rfl) (by rfl) (by rfl) (by rfl) ?_
              | refine W_cond_t (by rfl) ?_
              | refine W_cond_f (by rfl) ?_
              | refine W_load_box 0 TOk (by rfl) (by rfl) (by rfl) (by rfl) (by rfl) ?_
              | refine W_load_box 1 TOk (by rfl) (by rfl) (by rfl) (by rfl) (by rfl) ?_
              | refine W_load_box 2 TOk (by rfl) (by rfl) (by rfl) (by rfl) (by rfl) ?_
              | refine W_load_box 3 TOk (by rfl) (by rfl) (by rfl) (by rfl) (by rfl) ?_
              | refine W_load_boxN 0 TOk (by rfl) (by rfl) (by rfl) (by rfl) (by rfl) ?_
              | refine W_load_boxN 1 TOk (by rfl) (by rfl) (by rfl) (by rfl) (by rfl) ?_
              | refine W_load_boxN 2 TOk (by rfl) (by rfl) (by rfl) (by rfl) (by rfl) ?_
              | refine W_load_boxN 3 TOk (by rfl) (by rfl) (by rfl) (by rfl) (by rfl) ?_
              | (refine W_store_box 0 TOk (by rfl) (by rfl) (by rfl) (by rfl) (by rfl) (by rfl) ?_; dsimp only [setL, putL, vcells])
              | (refine W_store_box 1 TOk (by rfl) (by rfl) (by rfl) (by rfl) (by rfl) (by rfl) ?_; dsimp only [setL, putL, vcells])
              | (refine W_store_box 2 TOk (by rfl) (by rfl) (by rfl) (by rfl) (by rfl) (by rfl) ?_; dsimp only [setL, putL, vcells])
              | (refine W_store_box 3 TOk (by rfl) (by rfl) (by rfl) (by rfl) (by rfl) (by rfl) ?_; dsimp only [setL, putL, vcells])
            refine W_cond_nd (by rfl) (fun h => absurd (show (((lens x').length : Nat) : Int) = _ by omega) h) (fun _ => ?_)
            repeat first
              | refine W_seq ?_
              | refine W_skip ?_
              | refine W_block ?_
              | refine W_blk ?_
              | refine W_exit (by rfl) ?_
              | refine W_region (by rfl) ?_
              | refine W_opsnil ?_
              | refine W_pure TOk (by rfl) (by first | trivial | (simp only [okI, and_true, true_and, and_self] <;> omega)) ?_
              | refine W_on (by rfl) (by rfl) (by rfl) ?_
              | refine W_off (by rfl) (by rfl) (by rfl) (by rfl) (by rfl) ?_
              | refine W_offU (by rfl) (by rfl) (by rfl) (by rfl) ?_
              | refine W_cond_t (by rfl) ?_
              | refine W_cond_f (by rfl) ?_
              | refine W_load_box 0 TOk (by rfl) (by rfl) (by rfl) (by rfl) (by rfl) ?_
              | refine W_load_box 1 TOk (by rfl) (by rfl) (by rfl) (by rfl) (by rfl) ?_
              | refine W_load_box 2 TOk (by rfl) (by rfl) (by rfl) (by rfl) (by rfl) ?_
              | refine W_load_box 3 TOk (by rfl) (by rfl) (by rfl) (by rfl) (by rfl) ?_
              | refine W_load_boxN 0 TOk (by rfl) (by rfl) (by rfl) (by rfl) (by rfl) ?_
              | refine W_load_boxN 1 TOk (by rfl) (by rfl) (by rfl) (by rfl) (by rfl) ?_
              | refine W_load_boxN 2 TOk (by rfl) (by rfl) (by rfl) (by rfl) (by rfl) ?_
              | refine W_load_boxN 3 TOk (by rfl) (by rfl) (by rfl) (by rfl) (by rfl) ?_
              | (refine W_store_box 0 TOk (by rfl) (by rfl) (by rfl) (by rfl) (by rfl) (by rfl) ?_; dsimp only [setL, putL, vcells])
              | (refine W_store_box 1 TOk (by rfl) (by rfl) (by rfl) (by rfl) (by rfl) (by rfl) ?_; dsimp only [setL, putL, vcells])
              | (refine W_store_box 2 TOk (by rfl) (by rfl) (by rfl) (by rfl) (by rfl) (by rfl) ?_; dsimp only [setL, putL, vcells])
              | (refine W_store_box 3 TOk (by rfl) (by rfl) (by rfl) (by rfl) (by rfl) (by rfl) ?_; dsimp only [setL, putL, vcells])
            refine W_loop (ι := Nat) (fun k => [(2, .slice A1 ms.length c1), (7, .pointer (some ⟨b, 0, none⟩)), (8, .slice A7 (lens x).length c7), (9, .int .i64 (i : Nat)), (10, .int .i64 (n : Nat)), (11, .int .i64 (k : Nat))]) (fun _ => [textA b x' m', own 48 1 A7 (lens x).length c7 (rowsH A6 c6 x (lens x).length), own 21 1 A6 x.length c6 (i32s x)])
              (fun k => k ≤ ms.length) (fun k => ms.length - k) 0 (by omega) ⟨rfl, rfl, rfl, rfl, rfl, rfl, trivial⟩ (Ent.cons _ (Ent.cons _ (Ent.cons _ (Ent.nil _)))) ?_
            intro k hk
            repeat first
              | refine W_seq ?_
              | refine W_skip ?_
              | refine W_block ?_
              | refine W_blk ?_
              | refine W_exit (by rfl) ?_
              | refine W_region (by rfl) ?_
              | refine W_opsnil ?_
              | refine W_pure TOk (by rfl) (by first | trivial | (simp only [okI, and_true, true_and, and_self] <;> omega)) ?_
              | refine W_on (by rfl) (by rfl) (by rfl) ?_
              | refine W_off (by rfl) (by rfl) (by rfl) (by rfl) (by rfl) ?_
              | refine W_offU (by rfl) (by rfl) (by rfl) (by rfl) ?_
              | refine W_cond_t (by rfl) ?_
              | refine W_cond_f (by rfl) ?_
            refine W_cond_d (by rfl) (fun hlt => ?_) (fun hge => ?_)
            · obtain ⟨B, cB, hcB, hB_, hvs⟩ := hm.row (i := (k : Int)) (by omega) hlt
              have hrl := row_len_le ms (i := (k : Int)) (by omega) hlt
              have hg := rw_get (xss := ms) (i := (k : Int)) (by omega) hlt
              rw [show ((k : Int)).toNat = k by omega] at hg
              have hlin : linS x' ((i : Int) + (k : Int)) = (rw_ ms k, 0) := by
                have hlt' : i + k < (lens x').length := by omega
                have h1 := splitL_line (i + k) x' hlt'
                rw [hspl] at h1
                have h2 := mid_get (p := (splitL x).take i) (m := ms) (s := (splitL x).drop (i + n)) (k := k) (by omega)
                rw [List.length_take, Nat.min_eq_left (by omega), h1, hg] at h2
                unfold linS
                rw [if_pos (by omega), show ((i : Int) + (k : Int)).toNat = i + k by omega, Option.some.inj h2]
              repeat first
                | refine W_seq ?_
                | refine W_skip ?_
                | refine W_block ?_
                | refine W_blk ?_
                | refine W_exit (by rfl) ?_
                | refine W_region (by rfl) ?_
                | refine W_opsnil ?_
                | refine W_pure TOk (by rfl) (by first | trivial | (simp only [okI, and_true, true_and, and_self] <;> omega)) ?_
                | refine W_on (by rfl) (by rfl) (by rfl) ?_
                | refine W_off (by rfl) (by rfl) (by rfl) (by rfl) (by rfl) ?_
                | refine W_offU (by rfl) (by rfl) (by rfl) (by rfl) ?_
                | refine W_cond_t (by rfl) ?_
                | refine W_cond_f (by rfl) ?_
              refine W_call _ (by rfl) Try.call69 (by rfl) (fun w1 hw => Line_c w1 b x' (i + k) (textAt 0 hw.hp rfl)) ?_
              rw [hlin]
              rintro _ _ ⟨A8, c8, rfl, rfl⟩
              dsimp only [List.cons_append, List.nil_append]
              repeat first
                | refine W_seq ?_
                | refine W_skip ?_
                | refine W_block ?_
                | refine W_blk ?_
                | refine W_exit (by rfl) ?_
                | refine W_region (by rfl) ?_
                | refine W_opsnil ?_
                | refine W_pure TOk (by rfl) (by first | trivial | (simp only [okI, and_true, true_and, and_self] <;> omega)) ?_
                | refine W_on (by rfl) (by rfl) (by rfl) ?_
                | refine W_off (by rfl) (by rfl) (by rfl) (by rfl) (by rfl) ?_
                | refine W_offU (by rfl) (by rfl) (by rfl) (by rfl) ?_
                | refine W_cond_t (by rfl) ?_
                | refine W_cond_f (by rfl) ?_
              refine W_index TOk (by rfl) (by rfl) (by rfl) (by first | exact es48 | exact es22 | exact es136 | exact es150 | exact es223 | exact es29 | exact es132 | exact es207) (by omega) (by omega) (fun w1 hw => (hm.below hw.below).isSome (by omega)) ?_
              repeat first
                | refine W_seq ?_
                | refine W_skip ?_
                | refine W_block ?_
                | refine W_blk ?_
                | refine W_exit (by rfl) ?_
                | refine W_region (by rfl) ?_
                | refine W_opsnil ?_
                | refine W_pure TOk (by rfl) (by first | trivial | (simp only [okI, and_true, true_and, and_self] <;> omega)) ?_
                | refine W_on (by rfl) (by rfl) (by rfl) ?_
                | refine W_off (by rfl) (by rfl) (by rfl) (by rfl) (by rfl) ?_
                | refine W_offU (by rfl) (by rfl) (by rfl) (by rfl) ?_
                | refine W_cond_t (by rfl) ?_
                | refine W_cond_f (by rfl) ?_
              refine W_load TOk (by rfl) (by rfl) (by rfl) (fun w1 hw => cells_elem1 hvs hw.below) ?_
              repeat first
                | refine W_seq ?_
                | refine W_skip ?_
                | refine W_block ?_
                | refine W_blk ?_
                | refine W_exit (by rfl) ?_
                | refine W_region (by rfl) ?_
                | refine W_opsnil ?_
                | refine W_pure TOk (by rfl) (by first | trivial | (simp only [okI, and_true, true_and, and_self] <;> omega)) ?_
                | refine W_on (by rfl) (by rfl) (by rfl) ?_
                | refine W_off (by rfl) (by rfl) (by rfl) (by rfl) (by rfl) ?_
                | refine W_offU (by rfl) (by rfl) (by rfl) (by rfl) ?_
                | refine W_cond_t (by rfl) ?_
                | refine W_cond_f (by rfl) ?_
              refine W_callV (by rfl) Try.call61 (by rfl) (fun w1 hw => Runes_c w1 A8 B c8 cB (rw_ ms k) (rw_ ms k) (hw.hp.cells 0 rfl) (hB_.below hw.below) (by omega) (by omega)) ?_
              rw [decide_eq_true rfl]
              repeat first
                | refine W_seq ?_
                | refine W_skip ?_
                | refine W_block ?_
                | refine W_blk ?_
                | refine W_exit (by rfl) ?_
                | refine W_region (by rfl) ?_
                | refine W_opsnil ?_
                | refine W_pure TOk (by rfl) (by first | trivial | (simp only [okI, and_true, true_and, and_self] <;> omega)) ?_
                | refine W_on (by rfl) (by rfl) (by rfl) ?_
                | refine W_off (by rfl) (by rfl) (by rfl) (by rfl) (by rfl) ?_
                | refine W_offU (by rfl) (by rfl) (by rfl) (by rfl) ?_
                | refine W_cond_t (by rfl) ?_
                | refine W_cond_f (by rfl) ?_
              exact W_inv (k + 1) (by omega) (by omega) ⟨rfl, rfl, rfl, rfl, rfl, rfl, trivial⟩ (Ent.drop1 _ _)
            · have hke : k = ms.length := by omega
              refine W_ownlen 1 (by rfl) (fun hq1 hq2 hq3 => ?_)
              repeat first
                | refine W_seq ?_
                | refine W_skip ?_
                | refine W_block ?_
                | refine W_blk ?_
                | refine W_exit (by rfl) ?_
                | refine W_region (by rfl) ?_
                | refine W_opsnil ?_
                | refine W_pure TOk (by rfl) (by first | trivial | (simp only [okI, and_true, true_and, and_self] <;> omega)) ?_
                | refine W_on (by rfl) (by rfl) (by rfl) ?_
                | refine W_off (by rfl) (by rfl) (by rfl) (by rfl) (by rfl) ?_
                | refine W_offU (by rfl) (by rfl) (by rfl) (by rfl) ?_
                | refine W_cond_t (by rfl) ?_
                | refine W_cond_f (by rfl) ?_
              simp only [Int.toNat_natCast]
              have hlsl : (((splitL x).drop i).take (i + n - i)).length = n := by rw [List.length_take, List.length_drop, ← hlsp]; omega
              have hlt1 := tot_take ((splitL x).drop i) (i + n - i)
              have hlt2 := tot_drop (splitL x) i
              have hpl : plainL (((splitL x).drop i).take (i + n - i)) = true := plainL_sub (splitL_plainL x) (fun y hy => List.mem_of_mem_drop (List.mem_of_mem_take hy))
              have hjl := joinL_length (((splitL x).drop i).take (i + n - i))
              have hru2 : runes (((splitL x).drop i).take (i + n - i)) = (((splitL x).drop i).take (i + n - i)).length - 1 + tot (((splitL x).drop i).take (i + n - i)) := rfl
              obtain ⟨x'', hrep2, hspl2, hxl''⟩ := repS_in (x := x') (ms := ((splitL x).drop i).take (i + n - i)) (i := i) (n := ms.length) (by omega) (by omega) (fun h => by rw [h] at hlsl; simp at hlsl; omega) hpl (by omega)
              have hxx : x'' = x := by
                rw [← joinL_splitL x'', hspl2, hspl, show i + n - i = n by omega, swap_back (by omega), joinL_splitL]
              rw [hxx] at hrep2
              rw [show ((i : Int) + (n : Int)).toNat - i = (((splitL x).drop i).take (i + n - i)).length by rw [hlsl]; omega]
              refine W_turn _ (by rfl) Try.call71 (by rfl) (fun w1 hw => Replace_c _ w1 b x' m' i ms.length (cutA A7 i c7 1) (c7 - i) (((splitL x).drop i).take (i + n - i)) _ hw.le hw.hp (fun w' _ hp => (rows_all (hp.cells 0 rfl) (hp.cells 1 rfl) hc6).cut i (i + n) c7 (by omega)) (by omega) (by omega)) ?_
              rintro _ _ ⟨rfl, rfl⟩
              rw [hrep2]
              repeat first
                | refine W_seq ?_
                | refine W_skip ?_
                | refine W_block ?_
                | refine W_blk ?_
                | refine W_exit (by rfl) ?_
                | refine W_region (by rfl) ?_
                | refine W_opsnil ?_
                | refine W_pure TOk (by rfl) (by first | trivial | (simp only [okI, and_true, true_and, and_self] <;> omega)) ?_
                | refine W_on (by rfl) (by rfl) (by rfl) ?_
                | refine W_off (by rfl) (by rfl) (by rfl) (by rfl) (by rfl) ?_
                | refine W_offU (by rfl) (by rfl) (by rfl) (by rfl) ?_
                | refine W_cond_t (by rfl) ?_
                | refine W_cond_f (by rfl) ?_
              refine W_call _ (by rfl) Try.call65 (by rfl) (fun w1 hw => All_c w1 b x (textAt 0 hw.hp rfl)) ?_; rintro _ _ ⟨A9, c9, A10, c10, rfl, hc9, rfl⟩; dsimp only [List.cons_append, List.nil_append]
              repeat first
                | refine W_seq ?_
                | refine W_skip ?_
                | refine W_block ?_
                | refine W_blk ?_
                | refine W_exit (by rfl) ?_
                | refine W_region (by rfl) ?_
                | refine W_opsnil ?_
                | refine W_pure TOk (by rfl) (by first | trivial | (simp only [okI, and_true, true_and, and_self] <;> omega)) ?_
                | refine W_on (by rfl) (by rfl) (by rfl) ?_
                | refine W_off (by rfl) (by rfl) (by rfl) (by rfl) (by rfl) ?_
                | refine W_offU (by rfl) (by rfl) (by rfl) (by rfl) ?_
                | refine W_cond_t (by rfl) ?_
                | refine W_cond_f (by rfl) ?_
              rw [hlsp]
              refine W_callV (by rfl) Try.call50 (by rfl) (fun w1 hw => Same_c w1 A10 A7 c10 c7 (splitL x) (splitL x) (by rw [← hlsp] at hw; exact rows_all (hw.hp.cells 0 rfl) (hw.hp.cells 1 rfl) hc9) (by rw [← hlsp] at hw; exact rows_all (hw.hp.cells 3 rfl) (hw.hp.cells 4 rfl) hc6) (by omega) (by omega)) ?_
              rw [decide_eq_true rfl]
              repeat first
                | refine W_seq ?_
                | refine W_skip ?_
                | refine W_block ?_
                | refine W_blk ?_
                | refine W_exit (by rfl) ?_
                | refine W_region (by rfl) ?_
                | refine W_opsnil ?_
                | refine W_pure TOk (by rfl) (by first | trivial | (simp only [okI, and_true, true_and, and_self] <;> omega)) ?_
                | refine W_on (by rfl) (by rfl) (by rfl) ?_
                | refine W_off (by rfl) (by rfl) (by rfl) (by rfl) (by rfl) ?_
                | refine W_offU (by rfl) (by rfl) (by rfl) (by rfl) ?_
                | refine W_cond_t (by rfl) ?_
                | refine W_cond_f (by rfl) ?_
              refine W_callV (by rfl) Try.call44 (by rfl) (fun w1 hw => awake_c w1) ?_
              repeat first
                | refine W_seq ?_
                | refine W_skip ?_
                | refine W_block ?_
                | refine W_blk ?_
                | refine W_exit (by rfl) ?_
                | refine W_region (by rfl) ?_
                | refine W_opsnil ?_
                | refine W_pure TOk (by rfl) (by first | trivial | (simp only [okI, and_true, true_and, and_self] <;> omega)) ?_
                | refine W_on (by rfl) (by rfl) (by rfl) ?_
                | refine W_off (by rfl) (by rfl) (by rfl) (by rfl) (by rfl) ?_
                | refine W_offU (by rfl) (by rfl) (by rfl) (by rfl) ?_
                | refine W_cond_t (by rfl) ?_
                | refine W_cond_f (by rfl) ?_
              exact W_retF (vs := [_]) ⟨rfl, trivial⟩ (Ent.nil _) ⟨rfl, rfl⟩
          · repeat first
              | refine W_seq ?_
              | refine W_skip ?_
              | refine W_block ?_
              | refine W_blk ?_
              | refine W_exit (by rfl) ?_
              | refine W_region (by rfl) ?_
              | refine W_opsnil ?_
              | refine W_pure TOk (by rfl) (by first | trivial | (simp only [okI, and_true, true_and, and_self] <;> omega)) ?_
              | refine W_on (by rfl) (by rfl) (by rfl) ?_
              | refine W_off (by rfl) (by rfl) (by rfl) (by rfl) (by rfl) ?_
              | refine W_offU (by rfl) (by rfl) (by rfl) (by rfl) ?_
              | refine W_cond_t (by rfl) ?_
              | refine W_cond_f (by rfl) ?_
            refine W_call _ (by rfl) Try.call39 (by rfl) (fun w1 hw => RefNew_c w1 A0 c0 xss (hl.below hw.below) (by omega)) ?_
            intro v1 M1 hj1
            rcases hj1 with ⟨hp3, b3, rfl, rfl⟩ | ⟨hp3, rfl, rfl⟩ <;> dsimp only [List.cons_append, List.nil_append]
            · repeat first
                | refine W_seq ?_
                | refine W_skip ?_
                | refine W_block ?_
                | refine W_blk ?_
                | refine W_exit (by rfl) ?_
                | refine W_region (by rfl) ?_
                | refine W_opsnil ?_
                | refine W_pure TOk (by rfl) (by first | trivial | (simp only [okI, and_true, true_and, and_self] <;> omega)) ?_
                | refine W_on (by rfl) (by rfl) (by rfl) ?_
                | refine W_off (by rfl) (by rfl) (by rfl) (by rfl) (by rfl) ?_
                | refine W_offU (by rfl) (by rfl) (by rfl) (by rfl) ?_
                | refine W_cond_t (by rfl) ?_
                | refine W_cond_f (by rfl) ?_
              refine W_call _ (by rfl) Try.call39 (by rfl) (fun w1 hw => RefNew_c w1 A1 c1 ms (hm.below hw.below) (by omega)) ?_
              intro v1 M1 hj1
              rcases hj1 with ⟨hp4, b4, rfl, rfl⟩ | ⟨hp4, rfl, rfl⟩ <;> dsimp only [List.cons_append, List.nil_append]
              · exact absurd hp4 hp2
              · repeat first
                  | refine W_seq ?_
                  | refine W_skip ?_
                  | refine W_block ?_
                  | refine W_blk ?_
                  | refine W_exit (by rfl) ?_
                  | refine W_region (by rfl) ?_
                  | refine W_opsnil ?_
                  | refine W_pure TOk (by rfl) (by first | trivial | (simp only [okI, and_true, true_and, and_self] <;> omega)) ?_
                  | refine W_on (by rfl) (by rfl) (by rfl) ?_
                  | refine W_off (by rfl) (by rfl) (by rfl) (by rfl) (by rfl) ?_
                  | refine W_offU (by rfl) (by rfl) (by rfl) (by rfl) ?_
                  | refine W_cond_t (by rfl) ?_
                  | refine W_cond_f (by rfl) ?_
                exact W_retF (vs := [_]) ⟨rfl, trivial⟩ (Ent.nil _) ⟨rfl, rfl⟩
            · exact absurd hp hp3
        · repeat first
            | refine W_seq ?_
            | refine W_skip ?_
            | refine W_block ?_
            | refine W_blk ?_
            | refine W_exit (by rfl) ?_
            | refine W_region (by rfl) ?_
            | refine W_opsnil ?_
            | refine W_pure TOk (by rfl) (by first | trivial | (simp only [okI, and_true, true_and, and_self] <;> omega)) ?_
            | refine W_on (by rfl) (by rfl) (by rfl) ?_
            | refine W_off (by rfl) (by rfl) (by rfl) (by rfl) (by rfl) ?_
            | refine W_offU (by rfl) (by rfl) (by rfl) (by rfl) ?_
            | refine W_cond_t (by rfl) ?_
            | refine W_cond_f (by rfl) ?_
          refine W_call _ (by rfl) Try.call39 (by rfl) (fun w1 hw => RefNew_c w1 A0 c0 xss (hl.below hw.below) (by omega)) ?_
          intro v1 M1 hj1
          rcases hj1 with ⟨hp2, b, rfl, rfl⟩ | ⟨hp2, rfl, rfl⟩ <;> dsimp only [List.cons_append, List.nil_append]
          · exact absurd hp2 hp
          · repeat first
              | refine W_seq ?_
              | refine W_skip ?_
              | refine W_block ?_
              | refine W_blk ?_
              | refine W_exit (by rfl) ?_
              | refine W_region (by rfl) ?_
              | refine W_opsnil ?_
              | refine W_pure TOk (by rfl) (by first | trivial | (simp only [okI, and_true, true_and, and_self] <;> omega)) ?_
              | refine W_on (by rfl) (by rfl) (by rfl) ?_
              | refine W_off (by rfl) (by rfl) (by rfl) (by rfl) (by rfl) ?_
              | refine W_offU (by rfl) (by rfl) (by rfl) (by rfl) ?_
              | refine W_cond_t (by rfl) ?_
              | refine W_cond_f (by rfl) ?_
            exact W_retF (vs := [_]) ⟨rfl, trivial⟩ (Ent.nil _) ⟨rfl, rfl⟩
end Go.Proofs.Ytdfibmbedjpcgaa
