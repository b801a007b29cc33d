/- Lines in the place of lines. -/
import Derived.Test.YtdfibmbedjpcgaaS6
set_option linter.unusedVariables false
set_option linter.unusedSimpArgs false
namespace Go.Proofs.Ytdfibmbedjpcgaa
open Go Go.RowKit Eng Ls
attribute [local irreducible] Eng.W

def ReadsRows (B : Nat) (w : World) (L : List Ast) (A : Option Addr) (xss : List (List Int)) : Prop := ∀ w', Below B w w' → Hp B w' L → RowsAt w' A xss
def repA (x : List Int) (at_ n : Nat) (ls : List (List Int)) : Nat := if ls = [] ∧ ¬ at_ + n < (lens x).length ∧ 0 < at_ then beg x at_ - 1 else beg x at_
def repN (x : List Int) (at_ n : Nat) (ls : List (List Int)) : Nat := siz x (at_ + n - 1) + beg x (at_ + n - 1) - beg x at_ + (if ls = [] ∧ (at_ + n < (lens x).length ∨ 0 < at_) then 1 else 0)
def repS (x : List Int) (a n : Int) (ls : List (List Int)) : Int × List Int :=
  if ¬ (0 ≤ a ∧ a ≤ (lens x).length ∧ 0 ≤ n ∧ n ≤ (lens x).length - a) then (2, x) else if plainL ls = false then (1, x) else if n = 0 ∧ ls = [] then (0, x) else
  if a = (lens x).length then chgS x (10 :: joinL ls) x.length 0 else if n = 0 then chgS x (joinL ls ++ [10]) (beg x a.toNat) 0 else chgS x (joinL ls) (repA x a.toNat n.toNat ls) (repN x a.toNat n.toNat ls)
set_option maxHeartbeats 400000 in
theorem Replace_no (w : World) (a n l : Value) : Val Try.prog 71 [.pointer none, a, n, l] w (.int .i64 1) := by
  refine enterF Try.func71 rfl Try.ntmps71 rfl rfl ?_
  repeat first
    | refine W_seq ?_
    | refine W_skip ?_
    | refine W_block ?_
    | refine W_blk ?_
    | refine W_exit (by rfl) ?_
    | refine W_region (by rfl) ?_
    | refine W_opsnil ?_
    | refine W_pure TOk (by rfl) (by first | trivial | (simp only [okI, and_true, true_and, and_self] <;> omega)) ?_
    | refine W_on (by rfl) (by rfl) (by rfl) ?_
    | refine W_off (by rfl) (by rfl) (by rfl) (by rfl) (by rfl) ?_
    | refine W_offU (by rfl) (by rfl) (by rfl) (by rfl) ?_
    | refine W_cond_t (by rfl) ?_
    | refine W_cond_f (by rfl) ?_
  exact W_retF (vs := [_]) ⟨rfl, trivial⟩ (Ent.refl _) ⟨rfl, rfl⟩
def repM (m : Nat) (ls : List (List Int)) : Nat := m + (runes ls + 1)
theorem repS_bad {x : List Int} {a n : Int} {ls : List (List Int)} (h : ¬ (0 ≤ a ∧ a ≤ (lens x).length ∧ 0 ≤ n ∧ n ≤ (lens x).length - a)) : repS x a n ls = (2, x) := by unfold repS; rw [if_pos h]
theorem joinL_nil_of {ls : List (List Int)} (h : ls.length = 0) : ls = [] := List.eq_nil_of_length_eq_zero h
set_option maxHeartbeats 4000000 in
theorem Replace_c (B : Nat) (w : World) (b : Nat) (x : List Int) (m : Nat) (a n : Int) (A0 : Option Addr) (c0 : Nat) (ls : List (List Int)) (Lf : List Ast) (hB : B ≤ w.heap.size) (hL : Hp B w (textA b x m :: Lf)) (hr : ReadsRows B w Lf A0 ls) (hls : ls.length + tot ls ≤ 1048576) (hm : m ≤ 1099511627776) :
    Turn Try.prog 71 [.pointer (some ⟨b, 0, none⟩), .int .i64 a, .int .i64 n, .slice A0 ls.length c0] B w (fun v M => v = .int .i64 (repS x a n ls).1 ∧ M = textA b (repS x a n ls).2 (repM m ls) :: Lf) := by
  have hx : x.length ≤ 65536 := (textAt 0 hL rfl).big
  have hlp := lens_pos x
  have hle := lens_le x
  have hmm : m ≤ repM m ls := by unfold repM; omega
  refine enterT hB hL Try.func71 rfl Try.ntmps71 rfl rfl ?_
  refine W_text (fun tb A c ss h1 => ?_)
  have hbad : ∀ (F : Fr) (k : List It), fget F 8 = some (.int .i64 2) → ¬ (0 ≤ a ∧ a ≤ (lens x).length ∧ 0 ≤ n ∧ n ≤ (lens x).length - a) → W (cx Try.prog Try.f71 133 B w (TR B w fun v M => v = .int .i64 (repS x a n ls).1 ∧ M = textA b (repS x a n ls).2 (repM m ls) :: Lf)) (.code .ret :: k) F (box b 155 [.pointer (some ⟨tb, 0, none⟩), .slice A ss.length c, .int .i64 ((lens x).length : Nat)] :: tabA tb x m :: blocksA A c ss :: Lf) := fun F k hF h => by
    refine W_retT (vs := [.int .i64 2]) ⟨hF, trivial⟩ ((Ent.text_in (tb, A, c, ss) h1 Lf).trans (Ent.text_mono hmm _)) ⟨?_, ?_⟩
    · rw [repS_bad h]; rfl
    · rw [repS_bad h]
  have hok := h1.ok hx
  have hfl := h1.flat
  repeat first
    | refine W_seq ?_
    | refine W_skip ?_
    | refine W_block ?_
    | refine W_blk ?_
    | refine W_exit (by rfl) ?_
    | refine W_region (by rfl) ?_
    | refine W_opsnil ?_
    | refine W_pure TOk (by rfl) (by first | trivial | (simp only [okI, and_true, true_and, and_self] <;> omega)) ?_
    | refine W_on (by rfl) (by rfl) (by rfl) ?_
    | refine W_off (by rfl) (by rfl) (by rfl) (by rfl) (by rfl) ?_
    | refine W_offU (by rfl) (by rfl) (by rfl) (by rfl) ?_
    | refine W_cond_t (by rfl) ?_
    | refine W_cond_f (by rfl) ?_
    | refine W_load_box 0 TOk (by rfl) (by rfl) (by rfl) (by rfl) (by rfl) ?_
    | refine W_load_boxN 0 TOk (by rfl) (by rfl) (by rfl) (by rfl) (by rfl) ?_
    | (refine W_store_box 0 TOk (by rfl) (by rfl) (by rfl) (by rfl) (by rfl) (by rfl) ?_; dsimp only [setL, putL, vcells])
  refine W_dec 19 (by rfl) (fun hd => ?_) (fun hd => ?_)
  · have hn := of_decide_eq_true hd
    repeat first
      | refine W_seq ?_
      | refine W_skip ?_
      | refine W_block ?_
      | refine W_blk ?_
      | refine W_exit (by rfl) ?_
      | refine W_region (by rfl) ?_
      | refine W_opsnil ?_
      | refine W_pure TOk (by rfl) (by first | trivial | (simp only [okI, and_true, true_and, and_self] <;> omega)) ?_
      | refine W_on (by rfl) (by rfl) (by rfl) ?_
      | refine W_off (by rfl) (by rfl) (by rfl) (by rfl) (by rfl) ?_
      | refine W_offU (by rfl) (by rfl) (by rfl) (by rfl) ?_
      | refine W_cond_t (by rfl) ?_
      | refine W_cond_f (by rfl) ?_
      | refine W_load_box 0 TOk (by rfl) (by rfl) (by rfl) (by rfl) (by rfl) ?_
      | refine W_load_boxN 0 TOk (by rfl) (by rfl) (by rfl) (by rfl) (by rfl) ?_
      | (refine W_store_box 0 TOk (by rfl) (by rfl) (by rfl) (by rfl) (by rfl) (by rfl) ?_; dsimp only [setL, putL, vcells])
    exact hbad _ _ (by rfl) (by omega)
  · have hn0 := of_decide_eq_false hd
    repeat first
      | refine W_seq ?_
      | refine W_skip ?_
      | refine W_block ?_
      | refine W_blk ?_
      | refine W_exit (by rfl) ?_
      | refine W_region (by rfl) ?_
      | refine W_opsnil ?_
      | refine W_pure TOk (by rfl) (by first | trivial | (simp only [okI, and_true, true_and, and_self] <;> omega)) ?_
      | refine W_on (by rfl) (by rfl) (by rfl) ?_
      | refine W_off (by rfl) (by rfl) (by rfl) (by rfl) (by rfl) ?_
      | refine W_offU (by rfl) (by rfl) (by rfl) (by rfl) ?_
      | refine W_cond_t (by rfl) ?_
      | refine W_cond_f (by rfl) ?_
      | refine W_load_box 0 TOk (by rfl) (by rfl) (by rfl) (by rfl) (by rfl) ?_
      | refine W_load_boxN 0 TOk (by rfl) (by rfl) (by rfl) (by rfl) (by rfl) ?_
      | (refine W_store_box 0 TOk (by rfl) (by rfl) (by rfl) (by rfl) (by rfl) (by rfl) ?_; dsimp only [setL, putL, vcells])
    refine W_dec 28 (by rfl) (fun hd => ?_) (fun hd => ?_)
    · have hn := of_decide_eq_true hd
      repeat first
        | refine W_seq ?_
        | refine W_skip ?_
        | refine W_block ?_
        | refine W_blk ?_
        | refine W_exit (by rfl) ?_
        | refine W_region (by rfl) ?_
        | refine W_opsnil ?_
        | refine W_pure TOk (by rfl) (by first | trivial | (simp only [okI, and_true, true_and, and_self] <;> omega)) ?_
        | refine W_on (by rfl) (by rfl) (by rfl) ?_
        | refine W_off (by rfl) (by rfl) (by rfl) (by rfl) (by rfl) ?_
        | refine W_offU (by rfl) (by rfl) (by rfl) (by rfl) ?_
        | refine W_cond_t (by rfl) ?_
        | refine W_cond_f (by rfl) ?_
        | refine W_load_box 0 TOk (by rfl) (by rfl) (by rfl) (by rfl) (by rfl) ?_
        | refine W_load_boxN 0 TOk (by rfl) (by rfl) (by rfl) (by rfl) (by rfl) ?_
        | (refine W_store_box 0 TOk (by rfl) (by rfl) (by rfl) (by rfl) (by rfl) (by rfl) ?_; dsimp only [setL, putL, vcells])
      exact hbad _ _ (by rfl) (by omega)
    · have hn1 := of_decide_eq_false hd
      repeat first
        | refine W_seq ?_
        | refine W_skip ?_
        | refine W_block ?_
        | refine W_blk ?_
        | refine W_exit (by rfl) ?_
        | refine W_region (by rfl) ?_
        | refine W_opsnil ?_
        | refine W_pure TOk (by rfl) (by first | trivial | (simp only [okI, and_true, true_and, and_self] <;> omega)) ?_
        | refine W_on (by rfl) (by rfl) (by rfl) ?_
        | refine W_off (by rfl) (by rfl) (by rfl) (by rfl) (by rfl) ?_
        | refine W_offU (by rfl) (by rfl) (by rfl) (by rfl) ?_
        | refine W_cond_t (by rfl) ?_
        | refine W_cond_f (by rfl) ?_
        | refine W_load_box 0 TOk (by rfl) (by rfl) (by rfl) (by rfl) (by rfl) ?_
        | refine W_load_boxN 0 TOk (by rfl) (by rfl) (by rfl) (by rfl) (by rfl) ?_
        | (refine W_store_box 0 TOk (by rfl) (by rfl) (by rfl) (by rfl) (by rfl) (by rfl) ?_; dsimp only [setL, putL, vcells])
      refine W_dec 32 (by rfl) (fun hd => ?_) (fun hd => ?_)
      · have hn := of_decide_eq_true hd
        repeat first
          | refine W_seq ?_
          | refine W_skip ?_
          | refine W_block ?_
          | refine W_blk ?_
          | refine W_exit (by rfl) ?_
          | refine W_region (by rfl) ?_
          | refine W_opsnil ?_
          | refine W_pure TOk (by rfl) (by first | trivial | (simp only [okI, and_true, true_and, and_self] <;> omega)) ?_
          | refine W_on (by rfl) (by rfl) (by rfl) ?_
          | refine W_off (by rfl) (by rfl) (by rfl) (by rfl) (by rfl) ?_
          | refine W_offU (by rfl) (by rfl) (by rfl) (by rfl) ?_
          | refine W_cond_t (by rfl) ?_
          | refine W_cond_f (by rfl) ?_
          | refine W_load_box 0 TOk (by rfl) (by rfl) (by rfl) (by rfl) (by rfl) ?_
          | refine W_load_boxN 0 TOk (by rfl) (by rfl) (by rfl) (by rfl) (by rfl) ?_
          | (refine W_store_box 0 TOk (by rfl) (by rfl) (by rfl) (by rfl) (by rfl) (by rfl) ?_; dsimp only [setL, putL, vcells])
        exact hbad _ _ (by rfl) (by omega)
      · have hn2 := of_decide_eq_false hd
        repeat first
          | refine W_seq ?_
          | refine W_skip ?_
          | refine W_block ?_
          | refine W_blk ?_
          | refine W_exit (by rfl) ?_
          | refine W_region (by rfl) ?_
          | refine W_opsnil ?_
          | refine W_pure TOk (by rfl) (by first | trivial | (simp only [okI, and_true, true_and, and_self] <;> omega)) ?_
          | refine W_on (by rfl) (by rfl) (by rfl) ?_
          | refine W_off (by rfl) (by rfl) (by rfl) (by rfl) (by rfl) ?_
          | refine W_offU (by rfl) (by rfl) (by rfl) (by rfl) ?_
          | refine W_cond_t (by rfl) ?_
          | refine W_cond_f (by rfl) ?_
          | refine W_load_box 0 TOk (by rfl) (by rfl) (by rfl) (by rfl) (by rfl) ?_
          | refine W_load_boxN 0 TOk (by rfl) (by rfl) (by rfl) (by rfl) (by rfl) ?_
          | (refine W_store_box 0 TOk (by rfl) (by rfl) (by rfl) (by rfl) (by rfl) (by rfl) ?_; dsimp only [setL, putL, vcells])
        refine W_cond_d (by rfl) (fun hgt => ?_) (fun hle2 => ?_)
        · repeat first
            | refine W_seq ?_
            | refine W_skip ?_
            | refine W_block ?_
            | refine W_blk ?_
            | refine W_exit (by rfl) ?_
            | refine W_region (by rfl) ?_
            | refine W_opsnil ?_
            | refine W_pure TOk (by rfl) (by first | trivial | (simp only [okI, and_true, true_and, and_self] <;> omega)) ?_
            | refine W_on (by rfl) (by rfl) (by rfl) ?_
            | refine W_off (by rfl) (by rfl) (by rfl) (by rfl) (by rfl) ?_
            | refine W_offU (by rfl) (by rfl) (by rfl) (by rfl) ?_
            | refine W_cond_t (by rfl) ?_
            | refine W_cond_f (by rfl) ?_
            | refine W_load_box 0 TOk (by rfl) (by rfl) (by rfl) (by rfl) (by rfl) ?_
            | refine W_load_boxN 0 TOk (by rfl) (by rfl) (by rfl) (by rfl) (by rfl) ?_
            | (refine W_store_box 0 TOk (by rfl) (by rfl) (by rfl) (by rfl) (by rfl) (by rfl) ?_; dsimp only [setL, putL, vcells])
          exact hbad _ _ (by rfl) (by omega)
        · have hgood : 0 ≤ a ∧ a ≤ (lens x).length ∧ 0 ≤ n ∧ n ≤ (lens x).length - a := by omega
          obtain ⟨i, rfl⟩ : ∃ i : Nat, a = (i : Int) := ⟨a.toNat, by omega⟩
          obtain ⟨k, rfl⟩ : ∃ k : Nat, n = (k : Int) := ⟨n.toNat, by omega⟩
          have hjl := joinL_length ls
          have hrl : runes ls ≤ ls.length + tot ls := by unfold runes; omega
          repeat first
            | refine W_seq ?_
            | refine W_skip ?_
            | refine W_block ?_
            | refine W_blk ?_
            | refine W_exit (by rfl) ?_
            | refine W_region (by rfl) ?_
            | refine W_opsnil ?_
            | refine W_pure TOk (by rfl) (by first | trivial | (simp only [okI, and_true, true_and, and_self] <;> omega)) ?_
            | refine W_on (by rfl) (by rfl) (by rfl) ?_
            | refine W_off (by rfl) (by rfl) (by rfl) (by rfl) (by rfl) ?_
            | refine W_offU (by rfl) (by rfl) (by rfl) (by rfl) ?_
            | refine W_cond_t (by rfl) ?_
            | refine W_cond_f (by rfl) ?_
            | refine W_load_box 0 TOk (by rfl) (by rfl) (by rfl) (by rfl) (by rfl) ?_
            | refine W_load_boxN 0 TOk (by rfl) (by rfl) (by rfl) (by rfl) (by rfl) ?_
            | (refine W_store_box 0 TOk (by rfl) (by rfl) (by rfl) (by rfl) (by rfl) (by rfl) ?_; dsimp only [setL, putL, vcells])
          refine W_call _ (by rfl) Try.call104 (by rfl) (fun w1 hw => joined_c w1 A0 c0 ls (hr w1 hw.below (hw.hp.ent ((Ent.drop2 _ _ _).trans (Ent.drop1 _ _)))) (by omega)) ?_
          intro v0 M0 hj0
          rcases hj0 with ⟨hp, rfl, rfl⟩ | ⟨hp, A2, c2, rfl, rfl⟩ <;> dsimp only [List.cons_append, List.nil_append]
          · repeat first
              | refine W_seq ?_
              | refine W_skip ?_
              | refine W_block ?_
              | refine W_blk ?_
              | refine W_exit (by rfl) ?_
              | refine W_region (by rfl) ?_
              | refine W_opsnil ?_
              | refine W_pure TOk (by rfl) (by first | trivial | (simp only [okI, and_true, true_and, and_self] <;> omega)) ?_
              | refine W_on (by rfl) (by rfl) (by rfl) ?_
              | refine W_off (by rfl) (by rfl) (by rfl) (by rfl) (by rfl) ?_
              | refine W_offU (by rfl) (by rfl) (by rfl) (by rfl) ?_
              | refine W_cond_t (by rfl) ?_
              | refine W_cond_f (by rfl) ?_
              | refine W_load_box 0 TOk (by rfl) (by rfl) (by rfl) (by rfl) (by rfl) ?_
              | refine W_load_boxN 0 TOk (by rfl) (by rfl) (by rfl) (by rfl) (by rfl) ?_
              | (refine W_store_box 0 TOk (by rfl) (by rfl) (by rfl) (by rfl) (by rfl) (by rfl) ?_; dsimp only [setL, putL, vcells])
            refine W_retT (vs := [_]) ⟨rfl, trivial⟩ ((Ent.text_in (tb, A, c, ss) h1 Lf).trans (Ent.text_mono hmm _)) ⟨?_, ?_⟩
            · unfold repS; rw [if_neg (by omega), if_pos hp]; rfl
            · unfold repS; rw [if_neg (by omega), if_pos hp]
          · have hpf : ¬ plainL ls = false := by rw [hp]; decide
            repeat first
              | refine W_seq ?_
              | refine W_skip ?_
              | refine W_block ?_
              | refine W_blk ?_
              | refine W_exit (by rfl) ?_
              | refine W_region (by rfl) ?_
              | refine W_opsnil ?_
              | refine W_pure TOk (by rfl) (by first | trivial | (simp only [okI, and_true, true_and, and_self] <;> omega)) ?_
              | refine W_on (by rfl) (by rfl) (by rfl) ?_
              | refine W_off (by rfl) (by rfl) (by rfl) (by rfl) (by rfl) ?_
              | refine W_offU (by rfl) (by rfl) (by rfl) (by rfl) ?_
              | refine W_cond_t (by rfl) ?_
              | refine W_cond_f (by rfl) ?_
              | refine W_load_box 0 TOk (by rfl) (by rfl) (by rfl) (by rfl) (by rfl) ?_
              | refine W_load_boxN 0 TOk (by rfl) (by rfl) (by rfl) (by rfl) (by rfl) ?_
              | (refine W_store_box 0 TOk (by rfl) (by rfl) (by rfl) (by rfl) (by rfl) (by rfl) ?_; dsimp only [setL, putL, vcells])
            refine W_dec 52 (by rfl) (fun hd => ?_) (fun hd => ?_)
            · have hk0 := of_decide_eq_true hd
              repeat first
                | refine W_seq ?_
                | refine W_skip ?_
                | refine W_block ?_
                | refine W_blk ?_
                | refine W_exit (by rfl) ?_
                | refine W_region (by rfl) ?_
                | refine W_opsnil ?_
                | refine W_pure TOk (by rfl) (by first | trivial | (simp only [okI, and_true, true_and, and_self] <;> omega)) ?_
                | refine W_on (by rfl) (by rfl) (by rfl) ?_
                | refine W_off (by rfl) (by rfl) (by rfl) (by rfl) (by rfl) ?_
                | refine W_offU (by rfl) (by rfl) (by rfl) (by rfl) ?_
                | refine W_cond_t (by rfl) ?_
                | refine W_cond_f (by rfl) ?_
                | refine W_load_box 0 TOk (by rfl) (by rfl) (by rfl) (by rfl) (by rfl) ?_
                | refine W_load_boxN 0 TOk (by rfl) (by rfl) (by rfl) (by rfl) (by rfl) ?_
                | (refine W_store_box 0 TOk (by rfl) (by rfl) (by rfl) (by rfl) (by rfl) (by rfl) ?_; dsimp only [setL, putL, vcells])
              refine W_cond_d (by rfl) (fun hz => ?_) (fun hnz => ?_)
              · have hls0 := joinL_nil_of (ls := ls) (by omega)
                repeat first
                  | refine W_seq ?_
                  | refine W_skip ?_
                  | refine W_block ?_
                  | refine W_blk ?_
                  | refine W_exit (by rfl) ?_
                  | refine W_region (by rfl) ?_
                  | refine W_opsnil ?_
                  | refine W_pure TOk (by rfl) (by first | trivial | (simp only [okI, and_true, true_and, and_self] <;> omega)) ?_
                  | refine W_on (by rfl) (by rfl) (by rfl) ?_
                  | refine W_off (by rfl) (by rfl) (by rfl) (by rfl) (by rfl) ?_
                  | refine W_offU (by rfl) (by rfl) (by rfl) (by rfl) ?_
                  | refine W_cond_t (by rfl) ?_
                  | refine W_cond_f (by rfl) ?_
                  | refine W_load_box 0 TOk (by rfl) (by rfl) (by rfl) (by rfl) (by rfl) ?_
                  | refine W_load_box 1 TOk (by rfl) (by rfl) (by rfl) (by rfl) (by rfl) ?_
                  | refine W_load_boxN 0 TOk (by rfl) (by rfl) (by rfl) (by rfl) (by rfl) ?_
                  | refine W_load_boxN 1 TOk (by rfl) (by rfl) (by rfl) (by rfl) (by rfl) ?_
                  | (refine W_store_box 0 TOk (by rfl) (by rfl) (by rfl) (by rfl) (by rfl) (by rfl) ?_; dsimp only [setL, putL, vcells])
                  | (refine W_store_box 1 TOk (by rfl) (by rfl) (by rfl) (by rfl) (by rfl) (by rfl) ?_; dsimp only [setL, putL, vcells])
                refine W_retT (vs := [_]) ⟨rfl, trivial⟩ ((Ent.drop1 _ _).trans ((Ent.text_in (tb, A, c, ss) h1 Lf).trans (Ent.text_mono hmm _))) ⟨?_, ?_⟩
                · unfold repS; rw [if_neg (by omega), if_neg hpf, if_pos ⟨hk0, hls0⟩]; rfl
                · unfold repS; rw [if_neg (by omega), if_neg hpf, if_pos ⟨hk0, hls0⟩]
              · have hlsn : ¬ ((k : Int) = 0 ∧ ls = []) := fun h => hnz (by rw [h.2]; rfl)
                repeat first
                  | refine W_seq ?_
                  | refine W_skip ?_
                  | refine W_block ?_
                  | refine W_blk ?_
                  | refine W_exit (by rfl) ?_
                  | refine W_region (by rfl) ?_
                  | refine W_opsnil ?_
                  | refine W_pure TOk (by rfl) (by first | trivial | (simp only [okI, and_true, true_and, and_self] <;> omega)) ?_
                  | refine W_on (by rfl) (by rfl) (by rfl) ?_
                  | refine W_off (by rfl) (by rfl) (by rfl) (by rfl) (by rfl) ?_
                  | refine W_offU (by rfl) (by rfl) (by rfl) (by rfl) ?_
                  | refine W_cond_t (by rfl) ?_
                  | refine W_cond_f (by rfl) ?_
                  | refine W_load_box 0 TOk (by rfl) (by rfl) (by rfl) (by rfl) (by rfl) ?_
                  | refine W_load_box 1 TOk (by rfl) (by rfl) (by rfl) (by rfl) (by rfl) ?_
                  | refine W_load_boxN 0 TOk (by rfl) (by rfl) (by rfl) (by rfl) (by rfl) ?_
                  | refine W_load_boxN 1 TOk (by rfl) (by rfl) (by rfl) (by rfl) (by rfl) ?_
                  | (refine W_store_box 0 TOk (by rfl) (by rfl) (by rfl) (by rfl) (by rfl) (by rfl) ?_; dsimp only [setL, putL, vcells])
                  | (refine W_store_box 1 TOk (by rfl) (by rfl) (by rfl) (by rfl) (by rfl) (by rfl) ?_; dsimp only [setL, putL, vcells])
                refine W_cond_d (by rfl) (fun hN => ?_) (fun hN => ?_)
                · repeat first
                    | refine W_seq ?_
                    | refine W_skip ?_
                    | refine W_block ?_
                    | refine W_blk ?_
                    | refine W_exit (by rfl) ?_
                    | refine W_region (by rfl) ?_
                    | refine W_opsnil ?_
                    | refine W_pure TOk (by rfl) (by first | trivial | (simp only [okI, and_true, true_and, and_self] <;> omega)) ?_
                    | refine W_on (by rfl) (by rfl) (by rfl) ?_
                    | refine W_off (by rfl) (by rfl) (by rfl) (by rfl) (by rfl) ?_
                    | refine W_offU (by rfl) (by rfl) (by rfl) (by rfl) ?_
                    | refine W_cond_t (by rfl) ?_
                    | refine W_cond_f (by rfl) ?_
                    | refine W_load_box 0 TOk (by rfl) (by rfl) (by rfl) (by rfl) (by rfl) ?_
                    | refine W_load_box 1 TOk (by rfl) (by rfl) (by rfl) (by rfl) (by rfl) ?_
                    | refine W_load_boxN 0 TOk (by rfl) (by rfl) (by rfl) (by rfl) (by rfl) ?_
                    | refine W_load_boxN 1 TOk (by rfl) (by rfl) (by rfl) (by rfl) (by rfl) ?_
                    | (refine W_store_box 0 TOk (by rfl) (by rfl) (by rfl) (by rfl) (by rfl) (by rfl) ?_; dsimp only [setL, putL, vcells])
                    | (refine W_store_box 1 TOk (by rfl) (by rfl) (by rfl) (by rfl) (by rfl) (by rfl) ?_; dsimp only [setL, putL, vcells])
                  refine W_callV (by rfl) Try.call108 (by rfl) (fun w1 hw => len_c w1 tb x (tabAt 2 hw.hp rfl)) ?_
                  repeat first
                    | refine W_seq ?_
                    | refine W_skip ?_
                    | refine W_block ?_
                    | refine W_blk ?_
                    | refine W_exit (by rfl) ?_
                    | refine W_region (by rfl) ?_
                    | refine W_opsnil ?_
                    | refine W_pure TOk (by rfl) (by first | trivial | (simp only [okI, and_true, true_and, and_self] <;> omega)) ?_
                    | refine W_on (by rfl) (by rfl) (by rfl) ?_
                    | refine W_off (by rfl) (by rfl) (by rfl) (by rfl) (by rfl) ?_
                    | refine W_offU (by rfl) (by rfl) (by rfl) (by rfl) ?_
                    | refine W_cond_t (by rfl) ?_
                    | refine W_cond_f (by rfl) ?_
                    | refine W_load_box 0 TOk (by rfl) (by rfl) (by rfl) (by rfl) (by rfl) ?_
                    | refine W_load_box 1 TOk (by rfl) (by rfl) (by rfl) (by rfl) (by rfl) ?_
                    | refine W_load_boxN 0 TOk (by rfl) (by rfl) (by rfl) (by rfl) (by rfl) ?_
                    | refine W_load_boxN 1 TOk (by rfl) (by rfl) (by rfl) (by rfl) (by rfl) ?_
                    | (refine W_store_box 0 TOk (by rfl) (by rfl) (by rfl) (by rfl) (by rfl) (by rfl) ?_; dsimp only [setL, putL, vcells])
                    | (refine W_store_box 1 TOk (by rfl) (by rfl) (by rfl) (by rfl) (by rfl) (by rfl) ?_; dsimp only [setL, putL, vcells])
                  refine W_lit TOk (cs := [_]) (by rfl) (by first | exact sl48 | exact sl22 | exact sl136 | exact sl150 | exact sl223 | exact sl29 | exact sl132 | exact sl207) (by rfl) (by rfl) (by rfl) (by rfl) (fun g1 => ?_)
                  repeat first
                    | refine W_seq ?_
                    | refine W_skip ?_
                    | refine W_block ?_
                    | refine W_blk ?_
                    | refine W_exit (by rfl) ?_
                    | refine W_region (by rfl) ?_
                    | refine W_opsnil ?_
                    | refine W_pure TOk (by rfl) (by first | trivial | (simp only [okI, and_true, true_and, and_self] <;> omega)) ?_
                    | refine W_on (by rfl) (by rfl) (by rfl) ?_
                    | refine W_off (by rfl) (by rfl) (by rfl) (by rfl) (by rfl) ?_
                    | refine W_offU (by rfl) (by rfl) (by rfl) (by rfl) ?_
                    | refine W_cond_t (by rfl) ?_
                    | refine W_cond_f (by rfl) ?_
                  refine W_append_own 0 TOk (by rfl) (by rfl) (by rfl) (by first | exact sl48 | exact sl22 | exact sl136 | exact sl150 | exact sl223 | exact sl29 | exact sl132 | exact sl207) (by rfl) (fun w1 hw => hw.hp.cells 1 rfl) (by simp [i32s_length, i64s_length]) (by first | exact i32s_one _ | exact i64s_one _ | exact one_of _ rfl) (by unfold maxLen; omega) (by omega) (fun A3 c3 => ?_); dsimp only [setL]
                  repeat first
                    | refine W_seq ?_
                    | refine W_skip ?_
                    | refine W_block ?_
                    | refine W_blk ?_
                    | refine W_exit (by rfl) ?_
                    | refine W_region (by rfl) ?_
                    | refine W_opsnil ?_
                    | refine W_pure TOk (by rfl) (by first | trivial | (simp only [okI, and_true, true_and, and_self] <;> omega)) ?_
                    | refine W_on (by rfl) (by rfl) (by rfl) ?_
                    | refine W_off (by rfl) (by rfl) (by rfl) (by rfl) (by rfl) ?_
                    | refine W_offU (by rfl) (by rfl) (by rfl) (by rfl) ?_
                    | refine W_cond_t (by rfl) ?_
                    | refine W_cond_f (by rfl) ?_
                  rw [show 1 + (joinL ls).length = (10 :: joinL ls).length by simp; omega]
                  refine W_ent (M := own 21 1 A3 (10 :: joinL ls).length c3 (i32s (10 :: joinL ls)) :: _) (Ent.snd _ _ _) ?_
                  refine W_ent (((Ent.pk 3 (by rfl)).trans ((Ent.pk 3 (by rfl)).trans (Ent.pk 3 (by rfl)))).trans (Ent.text_in (tb, A, c, ss) h1 _)) ?_
                  refine W_turn _ (by rfl) Try.call140 (by rfl) (fun w1 hw => chgS_c _ w1 b x m (x.length) (0) A3 c3 (10 :: joinL ls) _ hw.le hw.hp (Reads.own 0 rfl) (by omega) (by first | omega | (simp; omega)) hm) ?_
                  rintro _ _ ⟨rfl, rfl⟩
                  repeat first
                    | refine W_seq ?_
                    | refine W_skip ?_
                    | refine W_block ?_
                    | refine W_blk ?_
                    | refine W_exit (by rfl) ?_
                    | refine W_region (by rfl) ?_
                    | refine W_opsnil ?_
                    | refine W_pure TOk (by rfl) (by first | trivial | (simp only [okI, and_true, true_and, and_self] <;> omega)) ?_
                    | refine W_on (by rfl) (by rfl) (by rfl) ?_
                    | refine W_off (by rfl) (by rfl) (by rfl) (by rfl) (by rfl) ?_
                    | refine W_offU (by rfl) (by rfl) (by rfl) (by rfl) ?_
                    | refine W_cond_t (by rfl) ?_
                    | refine W_cond_f (by rfl) ?_
                  have heq : repS x (i : Int) (k : Int) ls = chgS x (10 :: joinL ls) (x.length) (0) := by
                    unfold repS; rw [if_neg (by omega), if_neg hpf, if_neg hlsn, if_pos hN]
                  refine W_retT (vs := [_]) ⟨rfl, trivial⟩ ((Ent.snd _ _ _).trans (Ent.text_mono (m' := repM m ls) (by unfold repM; first | omega | (simp; omega)) _)) ⟨?_, ?_⟩
                  · rw [heq]; rfl
                  · rw [heq]

                · have hsi := siz_le (x := x) (i := i) (by omega)
                  repeat first
                    | refine W_seq ?_
                    | refine W_skip ?_
                    | refine W_block ?_
                    | refine W_blk ?_
                    | refine W_exit (by rfl) ?_
                    | refine W_region (by rfl) ?_
                    | refine W_opsnil ?_
                    | refine W_pure TOk (by rfl) (by first | trivial | (simp only [okI, and_true, true_and, and_self] <;> omega)) ?_
                    | refine W_on (by rfl) (by rfl) (by rfl) ?_
                    | refine W_off (by rfl) (by rfl) (by rfl) (by rfl) (by rfl) ?_
                    | refine W_offU (by rfl) (by rfl) (by rfl) (by rfl) ?_
                    | refine W_cond_t (by rfl) ?_
                    | refine W_cond_f (by rfl) ?_
                    | refine W_load_box 0 TOk (by rfl) (by rfl) (by rfl) (by rfl) (by rfl) ?_
                    | refine W_load_box 1 TOk (by rfl) (by rfl) (by rfl) (by rfl) (by rfl) ?_
                    | refine W_load_boxN 0 TOk (by rfl) (by rfl) (by rfl) (by rfl) (by rfl) ?_
                    | refine W_load_boxN 1 TOk (by rfl) (by rfl) (by rfl) (by rfl) (by rfl) ?_
                    | (refine W_store_box 0 TOk (by rfl) (by rfl) (by rfl) (by rfl) (by rfl) (by rfl) ?_; dsimp only [setL, putL, vcells])
                    | (refine W_store_box 1 TOk (by rfl) (by rfl) (by rfl) (by rfl) (by rfl) (by rfl) ?_; dsimp only [setL, putL, vcells])
                  refine W_callV (by rfl) Try.call110 (by rfl) (fun w1 hw => start_c w1 b A c ss i (box_cell 1 hw.hp rfl) (blocksAt 3 hw.hp rfl) hok (by omega) (by omega)) ?_
                  rw [hfl, beg_start, rd_siz]
                  repeat first
                    | refine W_seq ?_
                    | refine W_skip ?_
                    | refine W_block ?_
                    | refine W_blk ?_
                    | refine W_exit (by rfl) ?_
                    | refine W_region (by rfl) ?_
                    | refine W_opsnil ?_
                    | refine W_pure TOk (by rfl) (by first | trivial | (simp only [okI, and_true, true_and, and_self] <;> omega)) ?_
                    | refine W_on (by rfl) (by rfl) (by rfl) ?_
                    | refine W_off (by rfl) (by rfl) (by rfl) (by rfl) (by rfl) ?_
                    | refine W_offU (by rfl) (by rfl) (by rfl) (by rfl) ?_
                    | refine W_cond_t (by rfl) ?_
                    | refine W_cond_f (by rfl) ?_
                    | refine W_load_box 0 TOk (by rfl) (by rfl) (by rfl) (by rfl) (by rfl) ?_
                    | refine W_load_box 1 TOk (by rfl) (by rfl) (by rfl) (by rfl) (by rfl) ?_
                    | refine W_load_boxN 0 TOk (by rfl) (by rfl) (by rfl) (by rfl) (by rfl) ?_
                    | refine W_load_boxN 1 TOk (by rfl) (by rfl) (by rfl) (by rfl) (by rfl) ?_
                    | (refine W_store_box 0 TOk (by rfl) (by rfl) (by rfl) (by rfl) (by rfl) (by rfl) ?_; dsimp only [setL, putL, vcells])
                    | (refine W_store_box 1 TOk (by rfl) (by rfl) (by rfl) (by rfl) (by rfl) (by rfl) ?_; dsimp only [setL, putL, vcells])
                  refine W_cond_d (by rfl) (fun _ => ?_) (fun h => absurd hk0 h)
                  repeat first
                    | refine W_seq ?_
                    | refine W_skip ?_
                    | refine W_block ?_
                    | refine W_blk ?_
                    | refine W_exit (by rfl) ?_
                    | refine W_region (by rfl) ?_
                    | refine W_opsnil ?_
                    | refine W_pure TOk (by rfl) (by first | trivial | (simp only [okI, and_true, true_and, and_self] <;> omega)) ?_
                    | refine W_on (by rfl) (by rfl) (by rfl) ?_
                    | refine W_off (by rfl) (by rfl) (by rfl) (by rfl) (by rfl) ?_
                    | refine W_offU (by rfl) (by rfl) (by rfl) (by rfl) ?_
                    | refine W_cond_t (by rfl) ?_
                    | refine W_cond_f (by rfl) ?_
                    | refine W_load_box 0 TOk (by rfl) (by rfl) (by rfl) (by rfl) (by rfl) ?_
                    | refine W_load_box 1 TOk (by rfl) (by rfl) (by rfl) (by rfl) (by rfl) ?_
                    | refine W_load_boxN 0 TOk (by rfl) (by rfl) (by rfl) (by rfl) (by rfl) ?_
                    | refine W_load_boxN 1 TOk (by rfl) (by rfl) (by rfl) (by rfl) (by rfl) ?_
                    | (refine W_store_box 0 TOk (by rfl) (by rfl) (by rfl) (by rfl) (by rfl) (by rfl) ?_; dsimp only [setL, putL, vcells])
                    | (refine W_store_box 1 TOk (by rfl) (by rfl) (by rfl) (by rfl) (by rfl) (by rfl) ?_; dsimp only [setL, putL, vcells])
                  refine W_lit TOk (cs := [_]) (by rfl) (by first | exact sl48 | exact sl22 | exact sl136 | exact sl150 | exact sl223 | exact sl29 | exact sl132 | exact sl207) (by rfl) (by rfl) (by rfl) (by rfl) (fun g1 => ?_)
                  refine W_append_own 1 TOk (by rfl) (by rfl) (by rfl) (by first | exact sl48 | exact sl22 | exact sl136 | exact sl150 | exact sl223 | exact sl29 | exact sl132 | exact sl207) (by rfl) (fun w1 hw => hw.hp.cells 0 rfl) (by simp [i32s_length, i64s_length]) (by first | exact i32s_one _ | exact i64s_one _ | exact one_of _ rfl) (by unfold maxLen; omega) (by omega) (fun A3 c3 => ?_); dsimp only [setL]
                  repeat first
                    | refine W_seq ?_
                    | refine W_skip ?_
                    | refine W_block ?_
                    | refine W_blk ?_
                    | refine W_exit (by rfl) ?_
                    | refine W_region (by rfl) ?_
                    | refine W_opsnil ?_
                    | refine W_pure TOk (by rfl) (by first | trivial | (simp only [okI, and_true, true_and, and_self] <;> omega)) ?_
                    | refine W_on (by rfl) (by rfl) (by rfl) ?_
                    | refine W_off (by rfl) (by rfl) (by rfl) (by rfl) (by rfl) ?_
                    | refine W_offU (by rfl) (by rfl) (by rfl) (by rfl) ?_
                    | refine W_cond_t (by rfl) ?_
                    | refine W_cond_f (by rfl) ?_
                  rw [show (joinL ls).length + 1 = (joinL ls ++ [10]).length by simp]
                  refine W_ent (M := own 21 1 A3 (joinL ls ++ [10]).length c3 (i32s (joinL ls ++ [10])) :: _) ((Ent.drop1 _ _).trans (Ent.own_cast rfl (by simp [i32s]) _)) ?_
                  refine W_ent (((Ent.pk 3 (by rfl)).trans ((Ent.pk 3 (by rfl)).trans (Ent.pk 3 (by rfl)))).trans (Ent.text_in (tb, A, c, ss) h1 _)) ?_
                  refine W_turn _ (by rfl) Try.call140 (by rfl) (fun w1 hw => chgS_c _ w1 b x m (beg x i) (0) A3 c3 (joinL ls ++ [10]) _ hw.le hw.hp (Reads.own 0 rfl) (by omega) (by first | omega | (simp; omega)) hm) ?_
                  rintro _ _ ⟨rfl, rfl⟩
                  repeat first
                    | refine W_seq ?_
                    | refine W_skip ?_
                    | refine W_block ?_
                    | refine W_blk ?_
                    | refine W_exit (by rfl) ?_
                    | refine W_region (by rfl) ?_
                    | refine W_opsnil ?_
                    | refine W_pure TOk (by rfl) (by first | trivial | (simp only [okI, and_true, true_and, and_self] <;> omega)) ?_
                    | refine W_on (by rfl) (by rfl) (by rfl) ?_
                    | refine W_off (by rfl) (by rfl) (by rfl) (by rfl) (by rfl) ?_
                    | refine W_offU (by rfl) (by rfl) (by rfl) (by rfl) ?_
                    | refine W_cond_t (by rfl) ?_
                    | refine W_cond_f (by rfl) ?_
                  have heq : repS x (i : Int) (k : Int) ls = chgS x (joinL ls ++ [10]) (beg x i) (0) := by
                    unfold repS; rw [if_neg (by omega), if_neg hpf, if_neg hlsn, if_neg hN, if_pos hk0]; rfl
                  refine W_retT (vs := [_]) ⟨rfl, trivial⟩ ((Ent.snd _ _ _).trans (Ent.text_mono (m' := repM m ls) (by unfold repM; first | omega | (simp; omega)) _)) ⟨?_, ?_⟩
                  · rw [heq]; rfl
                  · rw [heq]

            · have hk0 := of_decide_eq_false hd
              have hlsn : ¬ ((k : Int) = 0 ∧ ls = []) := fun h => hk0 h.1
              have hN : ¬ (i : Int) = (lens x).length := by omega
              have hsi := siz_le (x := x) (i := i) (by omega)
              have hsj := siz_le (x := x) (i := i + k - 1) (by omega)
              have hbm := beg_mono x (show i ≤ i + k - 1 by omega)
              have hbs := beg_snoc (x := x) (i := i + k - 1) (by omega)
              repeat first
                | refine W_seq ?_
                | refine W_skip ?_
                | refine W_block ?_
                | refine W_blk ?_
                | refine W_exit (by rfl) ?_
                | refine W_region (by rfl) ?_
                | refine W_opsnil ?_
                | refine W_pure TOk (by rfl) (by first | trivial | (simp only [okI, and_true, true_and, and_self] <;> omega)) ?_
                | refine W_on (by rfl) (by rfl) (by rfl) ?_
                | refine W_off (by rfl) (by rfl) (by rfl) (by rfl) (by rfl) ?_
                | refine W_offU (by rfl) (by rfl) (by rfl) (by rfl) ?_
                | refine W_cond_t (by rfl) ?_
                | refine W_cond_f (by rfl) ?_
                | refine W_load_box 0 TOk (by rfl) (by rfl) (by rfl) (by rfl) (by rfl) ?_
                | refine W_load_box 1 TOk (by rfl) (by rfl) (by rfl) (by rfl) (by rfl) ?_
                | refine W_load_boxN 0 TOk (by rfl) (by rfl) (by rfl) (by rfl) (by rfl) ?_
                | refine W_load_boxN 1 TOk (by rfl) (by rfl) (by rfl) (by rfl) (by rfl) ?_
                | (refine W_store_box 0 TOk (by rfl) (by rfl) (by rfl) (by rfl) (by rfl) (by rfl) ?_; dsimp only [setL, putL, vcells])
                | (refine W_store_box 1 TOk (by rfl) (by rfl) (by rfl) (by rfl) (by rfl) (by rfl) ?_; dsimp only [setL, putL, vcells])
              refine W_cond_d (by rfl) (fun h => absurd h hN) (fun _ => ?_)
              repeat first
                | refine W_seq ?_
                | refine W_skip ?_
                | refine W_block ?_
                | refine W_blk ?_
                | refine W_exit (by rfl) ?_
                | refine W_region (by rfl) ?_
                | refine W_opsnil ?_
                | refine W_pure TOk (by rfl) (by first | trivial | (simp only [okI, and_true, true_and, and_self] <;> omega)) ?_
                | refine W_on (by rfl) (by rfl) (by rfl) ?_
                | refine W_off (by rfl) (by rfl) (by rfl) (by rfl) (by rfl) ?_
                | refine W_offU (by rfl) (by rfl) (by rfl) (by rfl) ?_
                | refine W_cond_t (by rfl) ?_
                | refine W_cond_f (by rfl) ?_
                | refine W_load_box 0 TOk (by rfl) (by rfl) (by rfl) (by rfl) (by rfl) ?_
                | refine W_load_box 1 TOk (by rfl) (by rfl) (by rfl) (by rfl) (by rfl) ?_
                | refine W_load_boxN 0 TOk (by rfl) (by rfl) (by rfl) (by rfl) (by rfl) ?_
                | refine W_load_boxN 1 TOk (by rfl) (by rfl) (by rfl) (by rfl) (by rfl) ?_
                | (refine W_store_box 0 TOk (by rfl) (by rfl) (by rfl) (by rfl) (by rfl) (by rfl) ?_; dsimp only [setL, putL, vcells])
                | (refine W_store_box 1 TOk (by rfl) (by rfl) (by rfl) (by rfl) (by rfl) (by rfl) ?_; dsimp only [setL, putL, vcells])
              refine W_callV (by rfl) Try.call110 (by rfl) (fun w1 hw => start_c w1 b A c ss i (box_cell 1 hw.hp rfl) (blocksAt 3 hw.hp rfl) hok (by omega) (by omega)) ?_
              rw [hfl, beg_start, rd_siz]
              repeat first
                | refine W_seq ?_
                | refine W_skip ?_
                | refine W_block ?_
                | refine W_blk ?_
                | refine W_exit (by rfl) ?_
                | refine W_region (by rfl) ?_
                | refine W_opsnil ?_
                | refine W_pure TOk (by rfl) (by first | trivial | (simp only [okI, and_true, true_and, and_self] <;> omega)) ?_
                | refine W_on (by rfl) (by rfl) (by rfl) ?_
                | refine W_off (by rfl) (by rfl) (by rfl) (by rfl) (by rfl) ?_
                | refine W_offU (by rfl) (by rfl) (by rfl) (by rfl) ?_
                | refine W_cond_t (by rfl) ?_
                | refine W_cond_f (by rfl) ?_
                | refine W_load_box 0 TOk (by rfl) (by rfl) (by rfl) (by rfl) (by rfl) ?_
                | refine W_load_box 1 TOk (by rfl) (by rfl) (by rfl) (by rfl) (by rfl) ?_
                | refine W_load_boxN 0 TOk (by rfl) (by rfl) (by rfl) (by rfl) (by rfl) ?_
                | refine W_load_boxN 1 TOk (by rfl) (by rfl) (by rfl) (by rfl) (by rfl) ?_
                | (refine W_store_box 0 TOk (by rfl) (by rfl) (by rfl) (by rfl) (by rfl) (by rfl) ?_; dsimp only [setL, putL, vcells])
                | (refine W_store_box 1 TOk (by rfl) (by rfl) (by rfl) (by rfl) (by rfl) (by rfl) ?_; dsimp only [setL, putL, vcells])
              refine W_cond_d (by rfl) (fun h => absurd h hk0) (fun _ => ?_)
              repeat first
                | refine W_seq ?_
                | refine W_skip ?_
                | refine W_block ?_
                | refine W_blk ?_
                | refine W_exit (by rfl) ?_
                | refine W_region (by rfl) ?_
                | refine W_opsnil ?_
                | refine W_pure TOk (by rfl) (by first | trivial | (simp only [okI, and_true, true_and, and_self] <;> omega)) ?_
                | refine W_on (by rfl) (by rfl) (by rfl) ?_
                | refine W_off (by rfl) (by rfl) (by rfl) (by rfl) (by rfl) ?_
                | refine W_offU (by rfl) (by rfl) (by rfl) (by rfl) ?_
                | refine W_cond_t (by rfl) ?_
                | refine W_cond_f (by rfl) ?_
                | refine W_load_box 0 TOk (by rfl) (by rfl) (by rfl) (by rfl) (by rfl) ?_
                | refine W_load_box 1 TOk (by rfl) (by rfl) (by rfl) (by rfl) (by rfl) ?_
                | refine W_load_boxN 0 TOk (by rfl) (by rfl) (by rfl) (by rfl) (by rfl) ?_
                | refine W_load_boxN 1 TOk (by rfl) (by rfl) (by rfl) (by rfl) (by rfl) ?_
                | (refine W_store_box 0 TOk (by rfl) (by rfl) (by rfl) (by rfl) (by rfl) (by rfl) ?_; dsimp only [setL, putL, vcells])
                | (refine W_store_box 1 TOk (by rfl) (by rfl) (by rfl) (by rfl) (by rfl) (by rfl) ?_; dsimp only [setL, putL, vcells])
              rw [show (i : Int) + (k : Int) - 1 = ((i + k - 1 : Nat) : Int) by omega]
              refine W_callV (by rfl) Try.call110 (by rfl) (fun w1 hw => start_c w1 b A c ss (i + k - 1 : Nat) (box_cell 1 hw.hp rfl) (blocksAt 3 hw.hp rfl) hok (by omega) (by omega)) ?_
              rw [hfl, beg_start, rd_siz]
              repeat first
                | refine W_seq ?_
                | refine W_skip ?_
                | refine W_block ?_
                | refine W_blk ?_
                | refine W_exit (by rfl) ?_
                | refine W_region (by rfl) ?_
                | refine W_opsnil ?_
                | refine W_pure TOk (by rfl) (by first | trivial | (simp only [okI, and_true, true_and, and_self] <;> omega)) ?_
                | refine W_on (by rfl) (by rfl) (by rfl) ?_
                | refine W_off (by rfl) (by rfl) (by rfl) (by rfl) (by rfl) ?_
                | refine W_offU (by rfl) (by rfl) (by rfl) (by rfl) ?_
                | refine W_cond_t (by rfl) ?_
                | refine W_cond_f (by rfl) ?_
                | refine W_load_box 0 TOk (by rfl) (by rfl) (by rfl) (by rfl) (by rfl) ?_
                | refine W_load_box 1 TOk (by rfl) (by rfl) (by rfl) (by rfl) (by rfl) ?_
                | refine W_load_boxN 0 TOk (by rfl) (by rfl) (by rfl) (by rfl) (by rfl) ?_
                | refine W_load_boxN 1 TOk (by rfl) (by rfl) (by rfl) (by rfl) (by rfl) ?_
                | (refine W_store_box 0 TOk (by rfl) (by rfl) (by rfl) (by rfl) (by rfl) (by rfl) ?_; dsimp only [setL, putL, vcells])
                | (refine W_store_box 1 TOk (by rfl) (by rfl) (by rfl) (by rfl) (by rfl) (by rfl) ?_; dsimp only [setL, putL, vcells])
              refine W_cond_d (by rfl) (fun hz => ?_) (fun hnz => ?_)
              · have hls0 := joinL_nil_of (ls := ls) (by omega)
                repeat first
                  | refine W_seq ?_
                  | refine W_skip ?_
                  | refine W_block ?_
                  | refine W_blk ?_
                  | refine W_exit (by rfl) ?_
                  | refine W_region (by rfl) ?_
                  | refine W_opsnil ?_
                  | refine W_pure TOk (by rfl) (by first | trivial | (simp only [okI, and_true, true_and, and_self] <;> omega)) ?_
                  | refine W_on (by rfl) (by rfl) (by rfl) ?_
                  | refine W_off (by rfl) (by rfl) (by rfl) (by rfl) (by rfl) ?_
                  | refine W_offU (by rfl) (by rfl) (by rfl) (by rfl) ?_
                  | refine W_cond_t (by rfl) ?_
                  | refine W_cond_f (by rfl) ?_
                  | refine W_load_box 0 TOk (by rfl) (by rfl) (by rfl) (by rfl) (by rfl) ?_
                  | refine W_load_box 1 TOk (by rfl) (by rfl) (by rfl) (by rfl) (by rfl) ?_
                  | refine W_load_boxN 0 TOk (by rfl) (by rfl) (by rfl) (by rfl) (by rfl) ?_
                  | refine W_load_boxN 1 TOk (by rfl) (by rfl) (by rfl) (by rfl) (by rfl) ?_
                  | (refine W_store_box 0 TOk (by rfl) (by rfl) (by rfl) (by rfl) (by rfl) (by rfl) ?_; dsimp only [setL, putL, vcells])
                  | (refine W_store_box 1 TOk (by rfl) (by rfl) (by rfl) (by rfl) (by rfl) (by rfl) ?_; dsimp only [setL, putL, vcells])
                refine W_cond_d (by rfl) (fun hlt => ?_) (fun hge => ?_)
                · have hm1 := beg_mono x (show i + k ≤ (lens x).length by omega)
                  have hm2 := siz_le (x := x) (i := i + k) (by omega)
                  rw [show i + k - 1 + 1 = i + k by omega] at hbs
                  repeat first
                    | refine W_seq ?_
                    | refine W_skip ?_
                    | refine W_block ?_
                    | refine W_blk ?_
                    | refine W_exit (by rfl) ?_
                    | refine W_region (by rfl) ?_
                    | refine W_opsnil ?_
                    | refine W_pure TOk (by rfl) (by first | trivial | (simp only [okI, and_true, true_and, and_self] <;> omega)) ?_
                    | refine W_on (by rfl) (by rfl) (by rfl) ?_
                    | refine W_off (by rfl) (by rfl) (by rfl) (by rfl) (by rfl) ?_
                    | refine W_offU (by rfl) (by rfl) (by rfl) (by rfl) ?_
                    | refine W_cond_t (by rfl) ?_
                    | refine W_cond_f (by rfl) ?_
                    | refine W_load_box 0 TOk (by rfl) (by rfl) (by rfl) (by rfl) (by rfl) ?_
                    | refine W_load_box 1 TOk (by rfl) (by rfl) (by rfl) (by rfl) (by rfl) ?_
                    | refine W_load_boxN 0 TOk (by rfl) (by rfl) (by rfl) (by rfl) (by rfl) ?_
                    | refine W_load_boxN 1 TOk (by rfl) (by rfl) (by rfl) (by rfl) (by rfl) ?_
                    | (refine W_store_box 0 TOk (by rfl) (by rfl) (by rfl) (by rfl) (by rfl) (by rfl) ?_; dsimp only [setL, putL, vcells])
                    | (refine W_store_box 1 TOk (by rfl) (by rfl) (by rfl) (by rfl) (by rfl) (by rfl) ?_; dsimp only [setL, putL, vcells])
                  rw [show (beg x i : Int) = ((beg x i : Nat) : Int) by omega, show (siz x (i + k - 1) : Int) + ((beg x (i + k - 1) : Int) - (beg x i : Int)) + 1 = ((siz x (i + k - 1) + beg x (i + k - 1) - beg x i + 1 : Nat) : Int) by omega]
                  refine W_ent (((Ent.pk 3 (by rfl)).trans ((Ent.pk 3 (by rfl)).trans (Ent.pk 3 (by rfl)))).trans (Ent.text_in (tb, A, c, ss) h1 _)) ?_
                  refine W_turn _ (by rfl) Try.call140 (by rfl) (fun w1 hw => chgS_c _ w1 b x m (beg x i) (siz x (i + k - 1) + beg x (i + k - 1) - beg x i + 1) A2 c2 (joinL ls) _ hw.le hw.hp (Reads.own 0 rfl) (by omega) (by first | omega | (simp; omega)) hm) ?_
                  rintro _ _ ⟨rfl, rfl⟩
                  repeat first
                    | refine W_seq ?_
                    | refine W_skip ?_
                    | refine W_block ?_
                    | refine W_blk ?_
                    | refine W_exit (by rfl) ?_
                    | refine W_region (by rfl) ?_
                    | refine W_opsnil ?_
                    | refine W_pure TOk (by rfl) (by first | trivial | (simp only [okI, and_true, true_and, and_self] <;> omega)) ?_
                    | refine W_on (by rfl) (by rfl) (by rfl) ?_
                    | refine W_off (by rfl) (by rfl) (by rfl) (by rfl) (by rfl) ?_
                    | refine W_offU (by rfl) (by rfl) (by rfl) (by rfl) ?_
                    | refine W_cond_t (by rfl) ?_
                    | refine W_cond_f (by rfl) ?_
                  have heq : repS x (i : Int) (k : Int) ls = chgS x (joinL ls) (beg x i) (siz x (i + k - 1) + beg x (i + k - 1) - beg x i + 1) := by
                    unfold repS repA repN; rw [if_neg (by omega), if_neg hpf, if_neg hlsn, if_neg hN, if_neg hk0]; simp only [Int.toNat_natCast]; rw [if_neg (fun h => h.2.1 (by omega)), if_pos ⟨hls0, .inl (by omega)⟩]
                  refine W_retT (vs := [_]) ⟨rfl, trivial⟩ ((Ent.snd _ _ _).trans (Ent.text_mono (m' := repM m ls) (by unfold repM; first | omega | (simp; omega)) _)) ⟨?_, ?_⟩
                  · rw [heq]; rfl
                  · rw [heq]

                · repeat first
                    | refine W_seq ?_
                    | refine W_skip ?_
                    | refine W_block ?_
                    | refine W_blk ?_
                    | refine W_exit (by rfl) ?_
                    | refine W_region (by rfl) ?_
                    | refine W_opsnil ?_
                    | refine W_pure TOk (by rfl) (by first | trivial | (simp only [okI, and_true, true_and, and_self] <;> omega)) ?_
                    | refine W_on (by rfl) (by rfl) (by rfl) ?_
                    | refine W_off (by rfl) (by rfl) (by rfl) (by rfl) (by rfl) ?_
                    | refine W_offU (by rfl) (by rfl) (by rfl) (by rfl) ?_
                    | refine W_cond_t (by rfl) ?_
                    | refine W_cond_f (by rfl) ?_
                    | refine W_load_box 0 TOk (by rfl) (by rfl) (by rfl) (by rfl) (by rfl) ?_
                    | refine W_load_box 1 TOk (by rfl) (by rfl) (by rfl) (by rfl) (by rfl) ?_
                    | refine W_load_boxN 0 TOk (by rfl) (by rfl) (by rfl) (by rfl) (by rfl) ?_
                    | refine W_load_boxN 1 TOk (by rfl) (by rfl) (by rfl) (by rfl) (by rfl) ?_
                    | (refine W_store_box 0 TOk (by rfl) (by rfl) (by rfl) (by rfl) (by rfl) (by rfl) ?_; dsimp only [setL, putL, vcells])
                    | (refine W_store_box 1 TOk (by rfl) (by rfl) (by rfl) (by rfl) (by rfl) (by rfl) ?_; dsimp only [setL, putL, vcells])
                  refine W_cond_d (by rfl) (fun hi0 => ?_) (fun hi0 => ?_)
                  · have hb1 := beg_lt x (show 0 < i by omega) (show 0 < (lens x).length by omega)
                    repeat first
                      | refine W_seq ?_
                      | refine W_skip ?_
                      | refine W_block ?_
                      | refine W_blk ?_
                      | refine W_exit (by rfl) ?_
                      | refine W_region (by rfl) ?_
                      | refine W_opsnil ?_
                      | refine W_pure TOk (by rfl) (by first | trivial | (simp only [okI, and_true, true_and, and_self] <;> omega)) ?_
                      | refine W_on (by rfl) (by rfl) (by rfl) ?_
                      | refine W_off (by rfl) (by rfl) (by rfl) (by rfl) (by rfl) ?_
                      | refine W_offU (by rfl) (by rfl) (by rfl) (by rfl) ?_
                      | refine W_cond_t (by rfl) ?_
                      | refine W_cond_f (by rfl) ?_
                      | refine W_load_box 0 TOk (by rfl) (by rfl) (by rfl) (by rfl) (by rfl) ?_
                      | refine W_load_box 1 TOk (by rfl) (by rfl) (by rfl) (by rfl) (by rfl) ?_
                      | refine W_load_boxN 0 TOk (by rfl) (by rfl) (by rfl) (by rfl) (by rfl) ?_
                      | refine W_load_boxN 1 TOk (by rfl) (by rfl) (by rfl) (by rfl) (by rfl) ?_
                      | (refine W_store_box 0 TOk (by rfl) (by rfl) (by rfl) (by rfl) (by rfl) (by rfl) ?_; dsimp only [setL, putL, vcells])
                      | (refine W_store_box 1 TOk (by rfl) (by rfl) (by rfl) (by rfl) (by rfl) (by rfl) ?_; dsimp only [setL, putL, vcells])
                    rw [show (beg x i : Int) - 1 = ((beg x i - 1 : Nat) : Int) by omega, show (siz x (i + k - 1) : Int) + ((beg x (i + k - 1) : Int) - (beg x i : Int)) + 1 = ((siz x (i + k - 1) + beg x (i + k - 1) - beg x i + 1 : Nat) : Int) by omega]
                    refine W_ent (((Ent.pk 3 (by rfl)).trans ((Ent.pk 3 (by rfl)).trans (Ent.pk 3 (by rfl)))).trans (Ent.text_in (tb, A, c, ss) h1 _)) ?_
                    refine W_turn _ (by rfl) Try.call140 (by rfl) (fun w1 hw => chgS_c _ w1 b x m (beg x i - 1) (siz x (i + k - 1) + beg x (i + k - 1) - beg x i + 1) A2 c2 (joinL ls) _ hw.le hw.hp (Reads.own 0 rfl) (by omega) (by first | omega | (simp; omega)) hm) ?_
                    rintro _ _ ⟨rfl, rfl⟩
                    repeat first
                      | refine W_seq ?_
                      | refine W_skip ?_
                      | refine W_block ?_
                      | refine W_blk ?_
                      | refine W_exit (by rfl) ?_
                      | refine W_region (by rfl) ?_
                      | refine W_opsnil ?_
                      | refine W_pure TOk (by rfl) (by first | trivial | (simp only [okI, and_true, true_and, and_self] <;> omega)) ?_
                      | refine W_on (by rfl) (by rfl) (by rfl) ?_
                      | refine W_off (by rfl) (by rfl) (by rfl) (by rfl) (by rfl) ?_
                      | refine W_offU (by rfl) (by rfl) (by rfl) (by rfl) ?_
                      | refine W_cond_t (by rfl) ?_
                      | refine W_cond_f (by rfl) ?_
                    have heq : repS x (i : Int) (k : Int) ls = chgS x (joinL ls) (beg x i - 1) (siz x (i + k - 1) + beg x (i + k - 1) - beg x i + 1) := by
                      unfold repS repA repN; rw [if_neg (by omega), if_neg hpf, if_neg hlsn, if_neg hN, if_neg hk0]; simp only [Int.toNat_natCast]; rw [if_pos ⟨hls0, by omega, by omega⟩, if_pos ⟨hls0, .inr (by omega)⟩]
                    refine W_retT (vs := [_]) ⟨rfl, trivial⟩ ((Ent.snd _ _ _).trans (Ent.text_mono (m' := repM m ls) (by unfold repM; first | omega | (simp; omega)) _)) ⟨?_, ?_⟩
                    · rw [heq]; rfl
                    · rw [heq]

                  · repeat first
                      | refine W_seq ?_
                      | refine W_skip ?_
                      | refine W_block ?_
                      | refine W_blk ?_
                      | refine W_exit (by rfl) ?_
                      | refine W_region (by rfl) ?_
                      | refine W_opsnil ?_
                      | refine W_pure TOk (by rfl) (by first | trivial | (simp only [okI, and_true, true_and, and_self] <;> omega)) ?_
                      | refine W_on (by rfl) (by rfl) (by rfl) ?_
                      | refine W_off (by rfl) (by rfl) (by rfl) (by rfl) (by rfl) ?_
                      | refine W_offU (by rfl) (by rfl) (by rfl) (by rfl) ?_
                      | refine W_cond_t (by rfl) ?_
                      | refine W_cond_f (by rfl) ?_
                      | refine W_load_box 0 TOk (by rfl) (by rfl) (by rfl) (by rfl) (by rfl) ?_
                      | refine W_load_box 1 TOk (by rfl) (by rfl) (by rfl) (by rfl) (by rfl) ?_
                      | refine W_load_boxN 0 TOk (by rfl) (by rfl) (by rfl) (by rfl) (by rfl) ?_
                      | refine W_load_boxN 1 TOk (by rfl) (by rfl) (by rfl) (by rfl) (by rfl) ?_
                      | (refine W_store_box 0 TOk (by rfl) (by rfl) (by rfl) (by rfl) (by rfl) (by rfl) ?_; dsimp only [setL, putL, vcells])
                      | (refine W_store_box 1 TOk (by rfl) (by rfl) (by rfl) (by rfl) (by rfl) (by rfl) ?_; dsimp only [setL, putL, vcells])
                    rw [show (beg x i : Int) = ((beg x i : Nat) : Int) by omega, show (siz x (i + k - 1) : Int) + ((beg x (i + k - 1) : Int) - (beg x i : Int)) = ((siz x (i + k - 1) + beg x (i + k - 1) - beg x i : Nat) : Int) by omega]
                    refine W_ent (((Ent.pk 3 (by rfl)).trans ((Ent.pk 3 (by rfl)).trans (Ent.pk 3 (by rfl)))).trans (Ent.text_in (tb, A, c, ss) h1 _)) ?_
                    refine W_turn _ (by rfl) Try.call140 (by rfl) (fun w1 hw => chgS_c _ w1 b x m (beg x i) (siz x (i + k - 1) + beg x (i + k - 1) - beg x i) A2 c2 (joinL ls) _ hw.le hw.hp (Reads.own 0 rfl) (by omega) (by first | omega | (simp; omega)) hm) ?_
                    rintro _ _ ⟨rfl, rfl⟩
                    repeat first
                      | refine W_seq ?_
                      | refine W_skip ?_
                      | refine W_block ?_
                      | refine W_blk ?_
                      | refine W_exit (by rfl) ?_
                      | refine W_region (by rfl) ?_
                      | refine W_opsnil ?_
                      | refine W_pure TOk (by rfl) (by first | trivial | (simp only [okI, and_true, true_and, and_self] <;> omega)) ?_
                      | refine W_on (by rfl) (by rfl) (by rfl) ?_
                      | refine W_off (by rfl) (by rfl) (by rfl) (by rfl) (by rfl) ?_
                      | refine W_offU (by rfl) (by rfl) (by rfl) (by rfl) ?_
                      | refine W_cond_t (by rfl) ?_
                      | refine W_cond_f (by rfl) ?_
                    have heq : repS x (i : Int) (k : Int) ls = chgS x (joinL ls) (beg x i) (siz x (i + k - 1) + beg x (i + k - 1) - beg x i) := by
                      unfold repS repA repN; rw [if_neg (by omega), if_neg hpf, if_neg hlsn, if_neg hN, if_neg hk0]; simp only [Int.toNat_natCast]; rw [if_neg (fun h => hi0 (by omega)), if_neg (fun h => by omega)]; rfl
                    refine W_retT (vs := [_]) ⟨rfl, trivial⟩ ((Ent.snd _ _ _).trans (Ent.text_mono (m' := repM m ls) (by unfold repM; first | omega | (simp; omega)) _)) ⟨?_, ?_⟩
                    · rw [heq]; rfl
                    · rw [heq]

              · have hls0 : ¬ ls = [] := fun h => hnz (by rw [h]; rfl)
                repeat first
                  | refine W_seq ?_
                  | refine W_skip ?_
                  | refine W_block ?_
                  | refine W_blk ?_
                  | refine W_exit (by rfl) ?_
                  | refine W_region (by rfl) ?_
                  | refine W_opsnil ?_
                  | refine W_pure TOk (by rfl) (by first | trivial | (simp only [okI, and_true, true_and, and_self] <;> omega)) ?_
                  | refine W_on (by rfl) (by rfl) (by rfl) ?_
                  | refine W_off (by rfl) (by rfl) (by rfl) (by rfl) (by rfl) ?_
                  | refine W_offU (by rfl) (by rfl) (by rfl) (by rfl) ?_
                  | refine W_cond_t (by rfl) ?_
                  | refine W_cond_f (by rfl) ?_
                  | refine W_load_box 0 TOk (by rfl) (by rfl) (by rfl) (by rfl) (by rfl) ?_
                  | refine W_load_box 1 TOk (by rfl) (by rfl) (by rfl) (by rfl) (by rfl) ?_
                  | refine W_load_boxN 0 TOk (by rfl) (by rfl) (by rfl) (by rfl) (by rfl) ?_
                  | refine W_load_boxN 1 TOk (by rfl) (by rfl) (by rfl) (by rfl) (by rfl) ?_
                  | (refine W_store_box 0 TOk (by rfl) (by rfl) (by rfl) (by rfl) (by rfl) (by rfl) ?_; dsimp only [setL, putL, vcells])
                  | (refine W_store_box 1 TOk (by rfl) (by rfl) (by rfl) (by rfl) (by rfl) (by rfl) ?_; dsimp only [setL, putL, vcells])
                rw [show (beg x i : Int) = ((beg x i : Nat) : Int) by omega, show (siz x (i + k - 1) : Int) + ((beg x (i + k - 1) : Int) - (beg x i : Int)) = ((siz x (i + k - 1) + beg x (i + k - 1) - beg x i : Nat) : Int) by omega]
                refine W_ent (((Ent.pk 3 (by rfl)).trans ((Ent.pk 3 (by rfl)).trans (Ent.pk 3 (by rfl)))).trans (Ent.text_in (tb, A, c, ss) h1 _)) ?_
                refine W_turn _ (by rfl) Try.call140 (by rfl) (fun w1 hw => chgS_c _ w1 b x m (beg x i) (siz x (i + k - 1) + beg x (i + k - 1) - beg x i) A2 c2 (joinL ls) _ hw.le hw.hp (Reads.own 0 rfl) (by omega) (by first | omega | (simp; omega)) hm) ?_
                rintro _ _ ⟨rfl, rfl⟩
                repeat first
                  | refine W_seq ?_
                  | refine W_skip ?_
                  | refine W_block ?_
                  | refine W_blk ?_
                  | refine W_exit (by rfl) ?_
                  | refine W_region (by rfl) ?_
                  | refine W_opsnil ?_
                  | refine W_pure TOk (by rfl) (by first | trivial | (simp only [okI, and_true, true_and, and_self] <;> omega)) ?_
                  | refine W_on (by rfl) (by rfl) (by rfl) ?_
                  | refine W_off (by rfl) (by rfl) (by rfl) (by rfl) (by rfl) ?_
                  | refine W_offU (by rfl) (by rfl) (by rfl) (by rfl) ?_
                  | refine W_cond_t (by rfl) ?_
                  | refine W_cond_f (by rfl) ?_
                have heq : repS x (i : Int) (k : Int) ls = chgS x (joinL ls) (beg x i) (siz x (i + k - 1) + beg x (i + k - 1) - beg x i) := by
                  unfold repS repA repN; rw [if_neg (by omega), if_neg hpf, if_neg hlsn, if_neg hN, if_neg hk0]; simp only [Int.toNat_natCast]; rw [if_neg (fun h => hls0 h.1), if_neg (fun h => hls0 h.1)]; rfl
                refine W_retT (vs := [_]) ⟨rfl, trivial⟩ ((Ent.snd _ _ _).trans (Ent.text_mono (m' := repM m ls) (by unfold repM; first | omega | (simp; omega)) _)) ⟨?_, ?_⟩
                · rw [heq]; rfl
                · rw [heq]

end Go.Proofs.Ytdfibmbedjpcgaa
