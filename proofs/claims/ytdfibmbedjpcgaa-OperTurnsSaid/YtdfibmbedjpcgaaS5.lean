/- The text's functions over places. -/
import Derived.Test.YtdfibmbedjpcgaaS4
set_option linter.unusedVariables false
set_option linter.unusedSimpArgs false
namespace Go.Proofs.Ytdfibmbedjpcgaa
open Go Go.RowKit Eng Ls
attribute [local irreducible] Eng.W

theorem tabA_mono {b : Nat} {x : List Int} {m m' : Nat} (h : m ≤ m') {w : World} {S : Nat → Prop} (hA : (tabA b x m).A w S) : (tabA b x m').A w S := by
  obtain ⟨q, h1⟩ := exA_A.1 hA
  obtain ⟨h2, h3⟩ := andA_A.1 h1
  exact exA_A.2 ⟨q, andA_A.2 ⟨⟨Nat.le_trans h2.le h, h2.big, h2.pos, h2.flat⟩, h3⟩⟩
theorem textA_mono {b : Nat} {x : List Int} {m m' : Nat} (h : m ≤ m') {w : World} {S : Nat → Prop} (hA : (textA b x m).A w S) : (textA b x m').A w S := by
  obtain ⟨q, h1⟩ := exA_A.1 hA
  obtain ⟨h2, h3⟩ := andA_A.1 h1
  refine exA_A.2 ⟨q, andA_A.2 ⟨h2, seps_A.2 ?_⟩⟩
  obtain ⟨S1, S2, g1, ⟨S3, S4, g2, g3, g4, g5⟩, g6, g7⟩ := seps_A.1 h3
  exact ⟨S1, S2, g1, ⟨S3, S4, tabA_mono h g2, g3, g4, g5⟩, g6, g7⟩
theorem Ent.text_mono {b : Nat} {x : List Int} {m m' : Nat} (h : m ≤ m') (L : List Ast) : Ent (textA b x m :: L) (textA b x m' :: L) := fun w S ⟨S1, S2, h1, h2, h3, h4⟩ =>
  ⟨S, ⟨S1, S2, textA_mono h h1, h2, h3, h4⟩, fun _ hb => hb⟩
theorem Turn.ent {P : Program} {f : FuncId} {vs : List Value} {B : Nat} {w : World} {p q : Value → List Ast → Prop} (h : Turn P f vs B w p) (hq : ∀ v M, p v M → ∃ N, Ent M N ∧ q v N) : Turn P f vs B w q :=
  Calls.mono h fun _ _ ⟨v, M, he, hs, hp⟩ => let ⟨N, e, hN⟩ := hq v M hp; ⟨v, N, he, hs.ent e, hN⟩

def chgS (x l : List Int) (a n : Nat) : Int × List Int := if l.length + x.length > 65536 + n then (3, x) else (0, chg x l a n)
theorem chgS_c (B : Nat) (w : World) (b : Nat) (x : List Int) (m : Nat) (a n : Nat) (A0 : Option Addr) (c0 : Nat) (l : List Int) (Lf : List Ast) (hB : B ≤ w.heap.size) (hL : Hp B w (textA b x m :: Lf)) (hr : Reads B w Lf A0 (i32s l)) (ha : a + n ≤ x.length) (hl : l.length ≤ 1099511627776) (hm : m ≤ 1099511627776) :
    Turn Try.prog 140 [.pointer (some ⟨b, 0, none⟩), .int .i64 (a : Nat), .int .i64 (n : Nat), .slice A0 l.length c0] B w (fun v M => v = .int .i64 (chgS x l a n).1 ∧ M = textA b (chgS x l a n).2 (m + l.length) :: Lf) :=
  (change_c B w b x m a n A0 c0 l Lf hB hL hr ha hl hm).ent (by
    rintro v M (⟨h1, rfl, rfl⟩ | ⟨h1, rfl, rfl⟩)
    · exact ⟨_, Ent.text_mono (m' := m + l.length) (by omega) _, by unfold chgS; rw [if_pos h1], by unfold chgS; rw [if_pos h1]⟩
    · exact ⟨_, Ent.refl _, by unfold chgS; rw [if_neg (by omega)], by unfold chgS; rw [if_neg (by omega)]⟩)

/-! ### Between two places -/
theorem offS_zero {x : List Int} {l c : Int} (h : (offS x l c).2 = 0) : 0 ≤ l ∧ l < (lens x).length ∧ 0 ≤ c ∧ c ≤ rd (lens x) l ∧ (offS x l c).1 = startS x l + c ∧ 0 ≤ (offS x l c).1 ∧ (offS x l c).1 ≤ x.length := by
  unfold offS at h ⊢
  split at h
  · rename_i hc
    rw [if_pos hc]
    have h1 := startS_le x l
    have h2 := rd_lens x l hc.1 hc.2.1
    exact ⟨hc.1, hc.2.1, hc.2.2.1, hc.2.2.2, rfl, by dsimp only; omega, by dsimp only; omega⟩
  · cases h
theorem offS_bound (x : List Int) (l c : Int) : 0 ≤ (offS x l c).1 ∧ (offS x l c).1 ≤ x.length := by
  by_cases h : (offS x l c).2 = 0
  · have := offS_zero h; omega
  · unfold offS at h ⊢
    split
    · rename_i hc; rw [if_pos hc] at h; exact absurd rfl h
    · exact ⟨by decide, by omega⟩
def btw (o1 o2 : Int × Int) : Int × Int × Int := if o1.2 ≠ 0 then (0, 0, o1.2) else if o2.2 ≠ 0 then (0, 0, o2.2) else if o2.1 < o1.1 then (0, 0, 1) else (o1.1, o2.1 - o1.1, 0)
set_option maxHeartbeats 1000000 in
theorem between_g (w : World) (p : Value) (o1 o2 : Int × Int) (l1 c1 l2 c2 : Int)
    (h1 : ∀ w1, Below w.heap.size w w1 → Val Try.prog 42 [p, pos l1 c1] w1 (.tuple #[.int .i64 o1.1, .int .i64 o1.2])) (h2 : ∀ w1, Below w.heap.size w w1 → Val Try.prog 42 [p, pos l2 c2] w1 (.tuple #[.int .i64 o2.1, .int .i64 o2.2])) (hb1 : 0 ≤ o1.1 ∧ o1.1 ≤ 1099511627776) (hb2 : 0 ≤ o2.1 ∧ o2.1 ≤ 1099511627776) :
    Val Try.prog 141 [p, pos l1 c1, pos l2 c2] w (.tuple #[.int .i64 (btw o1 o2).1, .int .i64 (btw o1 o2).2.1, .int .i64 (btw o1 o2).2.2]) := by
  refine enterF Try.func141 rfl Try.ntmps141 rfl rfl ?_
  repeat first
    | refine W_seq ?_
    | refine W_skip ?_
    | refine W_block ?_
    | refine W_blk ?_
    | refine W_exit (by rfl) ?_
    | refine W_region (by rfl) ?_
    | refine W_opsnil ?_
    | refine W_pure TOk (by rfl) (by first | trivial | (simp only [okI, and_true, true_and, and_self] <;> omega)) ?_
    | refine W_on (by rfl) (by rfl) (by rfl) ?_
    | refine W_off (by rfl) (by rfl) (by rfl) (by rfl) (by rfl) ?_
    | refine W_offU (by rfl) (by rfl) (by rfl) (by rfl) ?_
    | refine W_cond_t (by rfl) ?_
    | refine W_cond_f (by rfl) ?_
  refine W_box (cs := [_, _]) (by rfl) (by rfl) (by rfl) (fun b1 => ?_)
  repeat first
    | refine W_seq ?_
    | refine W_skip ?_
    | refine W_block ?_
    | refine W_blk ?_
    | refine W_exit (by rfl) ?_
    | refine W_region (by rfl) ?_
    | refine W_opsnil ?_
    | refine W_pure TOk (by rfl) (by first | trivial | (simp only [okI, and_true, true_and, and_self] <;> omega)) ?_
    | refine W_on (by rfl) (by rfl) (by rfl) ?_
    | refine W_off (by rfl) (by rfl) (by rfl) (by rfl) (by rfl) ?_
    | refine W_offU (by rfl) (by rfl) (by rfl) (by rfl) ?_
    | refine W_cond_t (by rfl) ?_
    | refine W_cond_f (by rfl) ?_
  refine W_box (cs := [_, _]) (by rfl) (by rfl) (by rfl) (fun b2 => ?_)
  repeat first
    | refine W_seq ?_
    | refine W_skip ?_
    | refine W_block ?_
    | refine W_blk ?_
    | refine W_exit (by rfl) ?_
    | refine W_region (by rfl) ?_
    | refine W_opsnil ?_
    | refine W_pure TOk (by rfl) (by first | trivial | (simp only [okI, and_true, true_and, and_self] <;> omega)) ?_
    | refine W_on (by rfl) (by rfl) (by rfl) ?_
    | refine W_off (by rfl) (by rfl) (by rfl) (by rfl) (by rfl) ?_
    | refine W_offU (by rfl) (by rfl) (by rfl) (by rfl) ?_
    | refine W_cond_t (by rfl) ?_
    | refine W_cond_f (by rfl) ?_
    | refine W_load_box 0 TOk (by rfl) (by rfl) (by rfl) (by rfl) (by rfl) ?_
    | refine W_load_box 1 TOk (by rfl) (by rfl) (by rfl) (by rfl) (by rfl) ?_
    | refine W_load_boxN 0 TOk (by rfl) (by rfl) (by rfl) (by rfl) (by rfl) ?_
    | refine W_load_boxN 1 TOk (by rfl) (by rfl) (by rfl) (by rfl) (by rfl) ?_
    | (refine W_store_box 0 TOk (by rfl) (by rfl) (by rfl) (by rfl) (by rfl) (by rfl) ?_; dsimp only [setL, putL, vcells])
    | (refine W_store_box 1 TOk (by rfl) (by rfl) (by rfl) (by rfl) (by rfl) (by rfl) ?_; dsimp only [setL, putL, vcells])
  refine W_callV (by rfl) Try.call42 (by rfl) (fun w1 hw => h1 w1 hw.below) ?_
  repeat first
    | refine W_seq ?_
    | refine W_skip ?_
    | refine W_block ?_
    | refine W_blk ?_
    | refine W_exit (by rfl) ?_
    | refine W_region (by rfl) ?_
    | refine W_opsnil ?_
    | refine W_pure TOk (by rfl) (by first | trivial | (simp only [okI, and_true, true_and, and_self] <;> omega)) ?_
    | refine W_on (by rfl) (by rfl) (by rfl) ?_
    | refine W_off (by rfl) (by rfl) (by rfl) (by rfl) (by rfl) ?_
    | refine W_offU (by rfl) (by rfl) (by rfl) (by rfl) ?_
    | refine W_cond_t (by rfl) ?_
    | refine W_cond_f (by rfl) ?_
    | refine W_load_box 0 TOk (by rfl) (by rfl) (by rfl) (by rfl) (by rfl) ?_
    | refine W_load_box 1 TOk (by rfl) (by rfl) (by rfl) (by rfl) (by rfl) ?_
    | refine W_load_boxN 0 TOk (by rfl) (by rfl) (by rfl) (by rfl) (by rfl) ?_
    | refine W_load_boxN 1 TOk (by rfl) (by rfl) (by rfl) (by rfl) (by rfl) ?_
    | (refine W_store_box 0 TOk (by rfl) (by rfl) (by rfl) (by rfl) (by rfl) (by rfl) ?_; dsimp only [setL, putL, vcells])
    | (refine W_store_box 1 TOk (by rfl) (by rfl) (by rfl) (by rfl) (by rfl) (by rfl) ?_; dsimp only [setL, putL, vcells])
  refine W_cond_nd (by rfl) (fun he => ?_) (fun he => ?_)
  · repeat first
      | refine W_seq ?_
      | refine W_skip ?_
      | refine W_block ?_
      | refine W_blk ?_
      | refine W_exit (by rfl) ?_
      | refine W_region (by rfl) ?_
      | refine W_opsnil ?_
      | refine W_pure TOk (by rfl) (by first | trivial | (simp only [okI, and_true, true_and, and_self] <;> omega)) ?_
      | refine W_on (by rfl) (by rfl) (by rfl) ?_
      | refine W_off (by rfl) (by rfl) (by rfl) (by rfl) (by rfl) ?_
      | refine W_offU (by rfl) (by rfl) (by rfl) (by rfl) ?_
      | refine W_cond_t (by rfl) ?_
      | refine W_cond_f (by rfl) ?_
      | refine W_load_box 0 TOk (by rfl) (by rfl) (by rfl) (by rfl) (by rfl) ?_
      | refine W_load_box 1 TOk (by rfl) (by rfl) (by rfl) (by rfl) (by rfl) ?_
      | refine W_load_boxN 0 TOk (by rfl) (by rfl) (by rfl) (by rfl) (by rfl) ?_
      | refine W_load_boxN 1 TOk (by rfl) (by rfl) (by rfl) (by rfl) (by rfl) ?_
      | (refine W_store_box 0 TOk (by rfl) (by rfl) (by rfl) (by rfl) (by rfl) (by rfl) ?_; dsimp only [setL, putL, vcells])
      | (refine W_store_box 1 TOk (by rfl) (by rfl) (by rfl) (by rfl) (by rfl) (by rfl) ?_; dsimp only [setL, putL, vcells])
    refine W_retF (vs := [_, _, _]) ⟨rfl, rfl, rfl, trivial⟩ (Ent.nil _) ⟨?_, rfl⟩
    unfold btw
    rw [if_pos he]
    rfl
  · repeat first
      | refine W_seq ?_
      | refine W_skip ?_
      | refine W_block ?_
      | refine W_blk ?_
      | refine W_exit (by rfl) ?_
      | refine W_region (by rfl) ?_
      | refine W_opsnil ?_
      | refine W_pure TOk (by rfl) (by first | trivial | (simp only [okI, and_true, true_and, and_self] <;> omega)) ?_
      | refine W_on (by rfl) (by rfl) (by rfl) ?_
      | refine W_off (by rfl) (by rfl) (by rfl) (by rfl) (by rfl) ?_
      | refine W_offU (by rfl) (by rfl) (by rfl) (by rfl) ?_
      | refine W_cond_t (by rfl) ?_
      | refine W_cond_f (by rfl) ?_
      | refine W_load_box 0 TOk (by rfl) (by rfl) (by rfl) (by rfl) (by rfl) ?_
      | refine W_load_box 1 TOk (by rfl) (by rfl) (by rfl) (by rfl) (by rfl) ?_
      | refine W_load_boxN 0 TOk (by rfl) (by rfl) (by rfl) (by rfl) (by rfl) ?_
      | refine W_load_boxN 1 TOk (by rfl) (by rfl) (by rfl) (by rfl) (by rfl) ?_
      | (refine W_store_box 0 TOk (by rfl) (by rfl) (by rfl) (by rfl) (by rfl) (by rfl) ?_; dsimp only [setL, putL, vcells])
      | (refine W_store_box 1 TOk (by rfl) (by rfl) (by rfl) (by rfl) (by rfl) (by rfl) ?_; dsimp only [setL, putL, vcells])
    refine W_callV (by rfl) Try.call42 (by rfl) (fun w1 hw => h2 w1 hw.below) ?_
    repeat first
      | refine W_seq ?_
      | refine W_skip ?_
      | refine W_block ?_
      | refine W_blk ?_
      | refine W_exit (by rfl) ?_
      | refine W_region (by rfl) ?_
      | refine W_opsnil ?_
      | refine W_pure TOk (by rfl) (by first | trivial | (simp only [okI, and_true, true_and, and_self] <;> omega)) ?_
      | refine W_on (by rfl) (by rfl) (by rfl) ?_
      | refine W_off (by rfl) (by rfl) (by rfl) (by rfl) (by rfl) ?_
      | refine W_offU (by rfl) (by rfl) (by rfl) (by rfl) ?_
      | refine W_cond_t (by rfl) ?_
      | refine W_cond_f (by rfl) ?_
      | refine W_load_box 0 TOk (by rfl) (by rfl) (by rfl) (by rfl) (by rfl) ?_
      | refine W_load_box 1 TOk (by rfl) (by rfl) (by rfl) (by rfl) (by rfl) ?_
      | refine W_load_boxN 0 TOk (by rfl) (by rfl) (by rfl) (by rfl) (by rfl) ?_
      | refine W_load_boxN 1 TOk (by rfl) (by rfl) (by rfl) (by rfl) (by rfl) ?_
      | (refine W_store_box 0 TOk (by rfl) (by rfl) (by rfl) (by rfl) (by rfl) (by rfl) ?_; dsimp only [setL, putL, vcells])
      | (refine W_store_box 1 TOk (by rfl) (by rfl) (by rfl) (by rfl) (by rfl) (by rfl) ?_; dsimp only [setL, putL, vcells])
    refine W_cond_nd (by rfl) (fun he2 => ?_) (fun he2 => ?_)
    · repeat first
        | refine W_seq ?_
        | refine W_skip ?_
        | refine W_block ?_
        | refine W_blk ?_
        | refine W_exit (by rfl) ?_
        | refine W_region (by rfl) ?_
        | refine W_opsnil ?_
        | refine W_pure TOk (by rfl) (by first | trivial | (simp only [okI, and_true, true_and, and_self] <;> omega)) ?_
        | refine W_on (by rfl) (by rfl) (by rfl) ?_
        | refine W_off (by rfl) (by rfl) (by rfl) (by rfl) (by rfl) ?_
        | refine W_offU (by rfl) (by rfl) (by rfl) (by rfl) ?_
        | refine W_cond_t (by rfl) ?_
        | refine W_cond_f (by rfl) ?_
        | refine W_load_box 0 TOk (by rfl) (by rfl) (by rfl) (by rfl) (by rfl) ?_
        | refine W_load_box 1 TOk (by rfl) (by rfl) (by rfl) (by rfl) (by rfl) ?_
        | refine W_load_boxN 0 TOk (by rfl) (by rfl) (by rfl) (by rfl) (by rfl) ?_
        | refine W_load_boxN 1 TOk (by rfl) (by rfl) (by rfl) (by rfl) (by rfl) ?_
        | (refine W_store_box 0 TOk (by rfl) (by rfl) (by rfl) (by rfl) (by rfl) (by rfl) ?_; dsimp only [setL, putL, vcells])
        | (refine W_store_box 1 TOk (by rfl) (by rfl) (by rfl) (by rfl) (by rfl) (by rfl) ?_; dsimp only [setL, putL, vcells])
      refine W_retF (vs := [_, _, _]) ⟨rfl, rfl, rfl, trivial⟩ (Ent.nil _) ⟨?_, rfl⟩
      unfold btw
      rw [if_neg (by simpa using he), if_pos he2]
      rfl
    · repeat first
        | refine W_seq ?_
        | refine W_skip ?_
        | refine W_block ?_
        | refine W_blk ?_
        | refine W_exit (by rfl) ?_
        | refine W_region (by rfl) ?_
        | refine W_opsnil ?_
        | refine W_pure TOk (by rfl) (by first | trivial | (simp only [okI, and_true, true_and, and_self] <;> omega)) ?_
        | refine W_on (by rfl) (by rfl) (by rfl) ?_
        | refine W_off (by rfl) (by rfl) (by rfl) (by rfl) (by rfl) ?_
        | refine W_offU (by rfl) (by rfl) (by rfl) (by rfl) ?_
        | refine W_cond_t (by rfl) ?_
        | refine W_cond_f (by rfl) ?_
        | refine W_load_box 0 TOk (by rfl) (by rfl) (by rfl) (by rfl) (by rfl) ?_
        | refine W_load_box 1 TOk (by rfl) (by rfl) (by rfl) (by rfl) (by rfl) ?_
        | refine W_load_boxN 0 TOk (by rfl) (by rfl) (by rfl) (by rfl) (by rfl) ?_
        | refine W_load_boxN 1 TOk (by rfl) (by rfl) (by rfl) (by rfl) (by rfl) ?_
        | (refine W_store_box 0 TOk (by rfl) (by rfl) (by rfl) (by rfl) (by rfl) (by rfl) ?_; dsimp only [setL, putL, vcells])
        | (refine W_store_box 1 TOk (by rfl) (by rfl) (by rfl) (by rfl) (by rfl) (by rfl) ?_; dsimp only [setL, putL, vcells])
      refine W_cond_d (by rfl) (fun hlt => ?_) (fun hge => ?_)
      · repeat first
          | refine W_seq ?_
          | refine W_skip ?_
          | refine W_block ?_
          | refine W_blk ?_
          | refine W_exit (by rfl) ?_
          | refine W_region (by rfl) ?_
          | refine W_opsnil ?_
          | refine W_pure TOk (by rfl) (by first | trivial | (simp only [okI, and_true, true_and, and_self] <;> omega)) ?_
          | refine W_on (by rfl) (by rfl) (by rfl) ?_
          | refine W_off (by rfl) (by rfl) (by rfl) (by rfl) (by rfl) ?_
          | refine W_offU (by rfl) (by rfl) (by rfl) (by rfl) ?_
          | refine W_cond_t (by rfl) ?_
          | refine W_cond_f (by rfl) ?_
          | refine W_load_box 0 TOk (by rfl) (by rfl) (by rfl) (by rfl) (by rfl) ?_
          | refine W_load_box 1 TOk (by rfl) (by rfl) (by rfl) (by rfl) (by rfl) ?_
          | refine W_load_boxN 0 TOk (by rfl) (by rfl) (by rfl) (by rfl) (by rfl) ?_
          | refine W_load_boxN 1 TOk (by rfl) (by rfl) (by rfl) (by rfl) (by rfl) ?_
          | (refine W_store_box 0 TOk (by rfl) (by rfl) (by rfl) (by rfl) (by rfl) (by rfl) ?_; dsimp only [setL, putL, vcells])
          | (refine W_store_box 1 TOk (by rfl) (by rfl) (by rfl) (by rfl) (by rfl) (by rfl) ?_; dsimp only [setL, putL, vcells])
        refine W_retF (vs := [_, _, _]) ⟨rfl, rfl, rfl, trivial⟩ (Ent.nil _) ⟨?_, rfl⟩
        unfold btw
        rw [if_neg (by simpa using he), if_neg (by simpa using he2), if_pos hlt]
        rfl
      · repeat first
          | refine W_seq ?_
          | refine W_skip ?_
          | refine W_block ?_
          | refine W_blk ?_
          | refine W_exit (by rfl) ?_
          | refine W_region (by rfl) ?_
          | refine W_opsnil ?_
          | refine W_pure TOk (by rfl) (by first | trivial | (simp only [okI, and_true, true_and, and_self] <;> omega)) ?_
          | refine W_on (by rfl) (by rfl) (by rfl) ?_
          | refine W_off (by rfl) (by rfl) (by rfl) (by rfl) (by rfl) ?_
          | refine W_offU (by rfl) (by rfl) (by rfl) (by rfl) ?_
          | refine W_cond_t (by rfl) ?_
          | refine W_cond_f (by rfl) ?_
          | refine W_load_box 0 TOk (by rfl) (by rfl) (by rfl) (by rfl) (by rfl) ?_
          | refine W_load_box 1 TOk (by rfl) (by rfl) (by rfl) (by rfl) (by rfl) ?_
          | refine W_load_boxN 0 TOk (by rfl) (by rfl) (by rfl) (by rfl) (by rfl) ?_
          | refine W_load_boxN 1 TOk (by rfl) (by rfl) (by rfl) (by rfl) (by rfl) ?_
          | (refine W_store_box 0 TOk (by rfl) (by rfl) (by rfl) (by rfl) (by rfl) (by rfl) ?_; dsimp only [setL, putL, vcells])
          | (refine W_store_box 1 TOk (by rfl) (by rfl) (by rfl) (by rfl) (by rfl) (by rfl) ?_; dsimp only [setL, putL, vcells])
        refine W_retF (vs := [_, _, _]) ⟨rfl, rfl, rfl, trivial⟩ (Ent.nil _) ⟨?_, rfl⟩
        unfold btw
        rw [if_neg (by simpa using he), if_neg (by simpa using he2), if_neg hge]
        rfl
def betS (x : List Int) (l1 c1 l2 c2 : Int) : Int × Int × Int := btw (offS x l1 c1) (offS x l2 c2)
theorem between_c (w : World) (b : Nat) (x : List Int) (l1 c1 l2 c2 : Int) (h : TextAt w b x) : Val Try.prog 141 [.pointer (some ⟨b, 0, none⟩), pos l1 c1, pos l2 c2] w (.tuple #[.int .i64 (betS x l1 c1 l2 c2).1, .int .i64 (betS x l1 c1 l2 c2).2.1, .int .i64 (betS x l1 c1 l2 c2).2.2]) := by
  have hb := h.big
  have h1 := offS_bound x l1 c1
  have h2 := offS_bound x l2 c2
  exact between_g w _ _ _ l1 c1 l2 c2 (fun w1 hw => Offset_c w1 b x l1 c1 (h.below hw)) (fun w1 hw => Offset_c w1 b x l2 c2 (h.below hw)) (by omega) (by omega)
theorem between_no (w : World) (l1 c1 l2 c2 : Int) : Val Try.prog 141 [.pointer none, pos l1 c1, pos l2 c2] w (.tuple #[.int .i64 0, .int .i64 0, .int .i64 1]) :=
  between_g w _ (0, 1) (0, 1) l1 c1 l2 c2 (fun w1 hw => Offset_no w1 l1 c1) (fun w1 hw => Offset_no w1 l2 c2) (by decide) (by decide)
theorem betS_zero {x : List Int} {l1 c1 l2 c2 : Int} (h : (betS x l1 c1 l2 c2).2.2 = 0) : (offS x l1 c1).2 = 0 ∧ (offS x l2 c2).2 = 0 ∧ (offS x l1 c1).1 ≤ (offS x l2 c2).1 ∧ (betS x l1 c1 l2 c2).1 = (offS x l1 c1).1 ∧ (betS x l1 c1 l2 c2).2.1 = (offS x l2 c2).1 - (offS x l1 c1).1 := by
  unfold betS btw at h ⊢
  split at h
  · rename_i h1; exact absurd h h1
  · rename_i h1
    split at h
    · rename_i h2; exact absurd h h2
    · rename_i h2
      split at h
      · cases h
      · rename_i h3
        rw [if_neg h1, if_neg h2, if_neg h3]
        exact ⟨by simpa using h1, by simpa using h2, by omega, rfl, rfl⟩

/-! ### Insert, Delete, Slice, Line -/
def insS (x : List Int) (l c : Int) (r : List Int) : Int × List Int := if (offS x l c).2 ≠ 0 then ((offS x l c).2, x) else chgS x r (offS x l c).1.toNat 0
set_option maxHeartbeats 1000000 in
theorem Insert_no (w : World) (l c : Int) (r : Value) : Val Try.prog 66 [.pointer none, pos l c, r] w (.int .i64 1) := by
  refine enterF Try.func66 rfl Try.ntmps66 rfl rfl ?_
  repeat first
    | refine W_seq ?_
    | refine W_skip ?_
    | refine W_block ?_
    | refine W_blk ?_
    | refine W_exit (by rfl) ?_
    | refine W_region (by rfl) ?_
    | refine W_opsnil ?_
    | refine W_pure TOk (by rfl) (by first | trivial | (simp only [okI, and_true, true_and, and_self] <;> omega)) ?_
    | refine W_on (by rfl) (by rfl) (by rfl) ?_
    | refine W_off (by rfl) (by rfl) (by rfl) (by rfl) (by rfl) ?_
    | refine W_offU (by rfl) (by rfl) (by rfl) (by rfl) ?_
    | refine W_cond_t (by rfl) ?_
    | refine W_cond_f (by rfl) ?_
  refine W_box (cs := [_, _]) (by rfl) (by rfl) (by rfl) (fun b1 => ?_)
  repeat first
    | refine W_seq ?_
    | refine W_skip ?_
    | refine W_block ?_
    | refine W_blk ?_
    | refine W_exit (by rfl) ?_
    | refine W_region (by rfl) ?_
    | refine W_opsnil ?_
    | refine W_pure TOk (by rfl) (by first | trivial | (simp only [okI, and_true, true_and, and_self] <;> omega)) ?_
    | refine W_on (by rfl) (by rfl) (by rfl) ?_
    | refine W_off (by rfl) (by rfl) (by rfl) (by rfl) (by rfl) ?_
    | refine W_offU (by rfl) (by rfl) (by rfl) (by rfl) ?_
    | refine W_cond_t (by rfl) ?_
    | refine W_cond_f (by rfl) ?_
    | refine W_load_box 0 TOk (by rfl) (by rfl) (by rfl) (by rfl) (by rfl) ?_
    | refine W_load_box 1 TOk (by rfl) (by rfl) (by rfl) (by rfl) (by rfl) ?_
    | refine W_load_boxN 0 TOk (by rfl) (by rfl) (by rfl) (by rfl) (by rfl) ?_
    | refine W_load_boxN 1 TOk (by rfl) (by rfl) (by rfl) (by rfl) (by rfl) ?_
    | (refine W_store_box 0 TOk (by rfl) (by rfl) (by rfl) (by rfl) (by rfl) (by rfl) ?_; dsimp only [setL, putL, vcells])
    | (refine W_store_box 1 TOk (by rfl) (by rfl) (by rfl) (by rfl) (by rfl) (by rfl) ?_; dsimp only [setL, putL, vcells])
  refine W_callV (by rfl) Try.call42 (by rfl) (fun w1 hw => Offset_no w1 l c) ?_
  repeat first
    | refine W_seq ?_
    | refine W_skip ?_
    | refine W_block ?_
    | refine W_blk ?_
    | refine W_exit (by rfl) ?_
    | refine W_region (by rfl) ?_
    | refine W_opsnil ?_
    | refine W_pure TOk (by rfl) (by first | trivial | (simp only [okI, and_true, true_and, and_self] <;> omega)) ?_
    | refine W_on (by rfl) (by rfl) (by rfl) ?_
    | refine W_off (by rfl) (by rfl) (by rfl) (by rfl) (by rfl) ?_
    | refine W_offU (by rfl) (by rfl) (by rfl) (by rfl) ?_
    | refine W_cond_t (by rfl) ?_
    | refine W_cond_f (by rfl) ?_
    | refine W_load_box 0 TOk (by rfl) (by rfl) (by rfl) (by rfl) (by rfl) ?_
    | refine W_load_box 1 TOk (by rfl) (by rfl) (by rfl) (by rfl) (by rfl) ?_
    | refine W_load_boxN 0 TOk (by rfl) (by rfl) (by rfl) (by rfl) (by rfl) ?_
    | refine W_load_boxN 1 TOk (by rfl) (by rfl) (by rfl) (by rfl) (by rfl) ?_
    | (refine W_store_box 0 TOk (by rfl) (by rfl) (by rfl) (by rfl) (by rfl) (by rfl) ?_; dsimp only [setL, putL, vcells])
    | (refine W_store_box 1 TOk (by rfl) (by rfl) (by rfl) (by rfl) (by rfl) (by rfl) ?_; dsimp only [setL, putL, vcells])
  exact W_retF (vs := [_]) ⟨rfl, trivial⟩ (Ent.nil _) ⟨rfl, rfl⟩
set_option maxHeartbeats 1000000 in
theorem Insert_c (B : Nat) (w : World) (b : Nat) (x : List Int) (m : Nat) (l c : Int) (A0 : Option Addr) (c0 : Nat) (r : List Int) (Lf : List Ast) (hB : B ≤ w.heap.size) (hL : Hp B w (textA b x m :: Lf)) (hr : Reads B w Lf A0 (i32s r)) (hl : r.length ≤ 1099511627776) (hm : m ≤ 1099511627776) :
    Turn Try.prog 66 [.pointer (some ⟨b, 0, none⟩), pos l c, .slice A0 r.length c0] B w (fun v M => v = .int .i64 (insS x l c r).1 ∧ M = textA b (insS x l c r).2 (m + r.length) :: Lf) := by
  have hx : x.length ≤ 65536 := (textAt 0 hL rfl).big
  have hob := offS_bound x l c
  refine enterT hB hL Try.func66 rfl Try.ntmps66 rfl rfl ?_
  repeat first
    | refine W_seq ?_
    | refine W_skip ?_
    | refine W_block ?_
    | refine W_blk ?_
    | refine W_exit (by rfl) ?_
    | refine W_region (by rfl) ?_
    | refine W_opsnil ?_
    | refine W_pure TOk (by rfl) (by first | trivial | (simp only [okI, and_true, true_and, and_self] <;> omega)) ?_
    | refine W_on (by rfl) (by rfl) (by rfl) ?_
    | refine W_off (by rfl) (by rfl) (by rfl) (by rfl) (by rfl) ?_
    | refine W_offU (by rfl) (by rfl) (by rfl) (by rfl) ?_
    | refine W_cond_t (by rfl) ?_
    | refine W_cond_f (by rfl) ?_
  refine W_box (cs := [_, _]) (by rfl) (by rfl) (by rfl) (fun b1 => ?_)
  repeat first
    | refine W_seq ?_
    | refine W_skip ?_
    | refine W_block ?_
    | refine W_blk ?_
    | refine W_exit (by rfl) ?_
    | refine W_region (by rfl) ?_
    | refine W_opsnil ?_
    | refine W_pure TOk (by rfl) (by first | trivial | (simp only [okI, and_true, true_and, and_self] <;> omega)) ?_
    | refine W_on (by rfl) (by rfl) (by rfl) ?_
    | refine W_off (by rfl) (by rfl) (by rfl) (by rfl) (by rfl) ?_
    | refine W_offU (by rfl) (by rfl) (by rfl) (by rfl) ?_
    | refine W_cond_t (by rfl) ?_
    | refine W_cond_f (by rfl) ?_
    | refine W_load_box 0 TOk (by rfl) (by rfl) (by rfl) (by rfl) (by rfl) ?_
    | refine W_load_box 1 TOk (by rfl) (by rfl) (by rfl) (by rfl) (by rfl) ?_
    | refine W_load_boxN 0 TOk (by rfl) (by rfl) (by rfl) (by rfl) (by rfl) ?_
    | refine W_load_boxN 1 TOk (by rfl) (by rfl) (by rfl) (by rfl) (by rfl) ?_
    | (refine W_store_box 0 TOk (by rfl) (by rfl) (by rfl) (by rfl) (by rfl) (by rfl) ?_; dsimp only [setL, putL, vcells])
    | (refine W_store_box 1 TOk (by rfl) (by rfl) (by rfl) (by rfl) (by rfl) (by rfl) ?_; dsimp only [setL, putL, vcells])
  refine W_callV (by rfl) Try.call42 (by rfl) (fun w1 hw => Offset_c w1 b x l c (textAt 1 hw.hp rfl)) ?_
  repeat first
    | refine W_seq ?_
    | refine W_skip ?_
    | refine W_block ?_
    | refine W_blk ?_
    | refine W_exit (by rfl) ?_
    | refine W_region (by rfl) ?_
    | refine W_opsnil ?_
    | refine W_pure TOk (by rfl) (by first | trivial | (simp only [okI, and_true, true_and, and_self] <;> omega)) ?_
    | refine W_on (by rfl) (by rfl) (by rfl) ?_
    | refine W_off (by rfl) (by rfl) (by rfl) (by rfl) (by rfl) ?_
    | refine W_offU (by rfl) (by rfl) (by rfl) (by rfl) ?_
    | refine W_cond_t (by rfl) ?_
    | refine W_cond_f (by rfl) ?_
    | refine W_load_box 0 TOk (by rfl) (by rfl) (by rfl) (by rfl) (by rfl) ?_
    | refine W_load_box 1 TOk (by rfl) (by rfl) (by rfl) (by rfl) (by rfl) ?_
    | refine W_load_boxN 0 TOk (by rfl) (by rfl) (by rfl) (by rfl) (by rfl) ?_
    | refine W_load_boxN 1 TOk (by rfl) (by rfl) (by rfl) (by rfl) (by rfl) ?_
    | (refine W_store_box 0 TOk (by rfl) (by rfl) (by rfl) (by rfl) (by rfl) (by rfl) ?_; dsimp only [setL, putL, vcells])
    | (refine W_store_box 1 TOk (by rfl) (by rfl) (by rfl) (by rfl) (by rfl) (by rfl) ?_; dsimp only [setL, putL, vcells])
  refine W_cond_nd (by rfl) (fun he => ?_) (fun he => ?_)
  · repeat first
      | refine W_seq ?_
      | refine W_skip ?_
      | refine W_block ?_
      | refine W_blk ?_
      | refine W_exit (by rfl) ?_
      | refine W_region (by rfl) ?_
      | refine W_opsnil ?_
      | refine W_pure TOk (by rfl) (by first | trivial | (simp only [okI, and_true, true_and, and_self] <;> omega)) ?_
      | refine W_on (by rfl) (by rfl) (by rfl) ?_
      | refine W_off (by rfl) (by rfl) (by rfl) (by rfl) (by rfl) ?_
      | refine W_offU (by rfl) (by rfl) (by rfl) (by rfl) ?_
      | refine W_cond_t (by rfl) ?_
      | refine W_cond_f (by rfl) ?_
      | refine W_load_box 0 TOk (by rfl) (by rfl) (by rfl) (by rfl) (by rfl) ?_
      | refine W_load_box 1 TOk (by rfl) (by rfl) (by rfl) (by rfl) (by rfl) ?_
      | refine W_load_boxN 0 TOk (by rfl) (by rfl) (by rfl) (by rfl) (by rfl) ?_
      | refine W_load_boxN 1 TOk (by rfl) (by rfl) (by rfl) (by rfl) (by rfl) ?_
      | (refine W_store_box 0 TOk (by rfl) (by rfl) (by rfl) (by rfl) (by rfl) (by rfl) ?_; dsimp only [setL, putL, vcells])
      | (refine W_store_box 1 TOk (by rfl) (by rfl) (by rfl) (by rfl) (by rfl) (by rfl) ?_; dsimp only [setL, putL, vcells])
    refine W_retT (vs := [_]) ⟨rfl, trivial⟩ ((Ent.drop1 _ _).trans (Ent.text_mono (m' := m + r.length) (by omega) _)) ⟨?_, ?_⟩
    · unfold insS; rw [if_pos he]; rfl
    · unfold insS; rw [if_pos he]
  · repeat first
      | refine W_seq ?_
      | refine W_skip ?_
      | refine W_block ?_
      | refine W_blk ?_
      | refine W_exit (by rfl) ?_
      | refine W_region (by rfl) ?_
      | refine W_opsnil ?_
      | refine W_pure TOk (by rfl) (by first | trivial | (simp only [okI, and_true, true_and, and_self] <;> omega)) ?_
      | refine W_on (by rfl) (by rfl) (by rfl) ?_
      | refine W_off (by rfl) (by rfl) (by rfl) (by rfl) (by rfl) ?_
      | refine W_offU (by rfl) (by rfl) (by rfl) (by rfl) ?_
      | refine W_cond_t (by rfl) ?_
      | refine W_cond_f (by rfl) ?_
      | refine W_load_box 0 TOk (by rfl) (by rfl) (by rfl) (by rfl) (by rfl) ?_
      | refine W_load_box 1 TOk (by rfl) (by rfl) (by rfl) (by rfl) (by rfl) ?_
      | refine W_load_boxN 0 TOk (by rfl) (by rfl) (by rfl) (by rfl) (by rfl) ?_
      | refine W_load_boxN 1 TOk (by rfl) (by rfl) (by rfl) (by rfl) (by rfl) ?_
      | (refine W_store_box 0 TOk (by rfl) (by rfl) (by rfl) (by rfl) (by rfl) (by rfl) ?_; dsimp only [setL, putL, vcells])
      | (refine W_store_box 1 TOk (by rfl) (by rfl) (by rfl) (by rfl) (by rfl) (by rfl) ?_; dsimp only [setL, putL, vcells])
    have hn : (offS x l c).1 = (((offS x l c).1.toNat : Nat) : Int) := by omega
    rw [hn]
    refine W_ent (Ent.drop1 _ _) ?_
    refine W_turn _ (by rfl) Try.call140 (by rfl) (fun w1 hw => chgS_c _ w1 b x m (offS x l c).1.toNat 0 A0 c0 r Lf hw.le hw.hp (hr.step hw.below (Ent.refl _)) (by omega) hl hm) ?_
    rintro _ _ ⟨rfl, rfl⟩
    repeat first
      | refine W_seq ?_
      | refine W_skip ?_
      | refine W_block ?_
      | refine W_blk ?_
      | refine W_exit (by rfl) ?_
      | refine W_region (by rfl) ?_
      | refine W_opsnil ?_
      | refine W_pure TOk (by rfl) (by first | trivial | (simp only [okI, and_true, true_and, and_self] <;> omega)) ?_
      | refine W_on (by rfl) (by rfl) (by rfl) ?_
      | refine W_off (by rfl) (by rfl) (by rfl) (by rfl) (by rfl) ?_
      | refine W_offU (by rfl) (by rfl) (by rfl) (by rfl) ?_
      | refine W_cond_t (by rfl) ?_
      | refine W_cond_f (by rfl) ?_
    refine W_retT (vs := [_]) ⟨rfl, trivial⟩ (Ent.refl _) ⟨?_, ?_⟩
    · unfold insS; rw [if_neg (by simpa using he)]; rfl
    · unfold insS; rw [if_neg (by simpa using he)]
def delS (x : List Int) (l1 c1 l2 c2 : Int) : Int × List Int := if (betS x l1 c1 l2 c2).2.2 ≠ 0 then ((betS x l1 c1 l2 c2).2.2, x) else chgS x [] (betS x l1 c1 l2 c2).1.toNat (betS x l1 c1 l2 c2).2.1.toNat
set_option maxHeartbeats 1000000 in
theorem Delete_no (w : World) (l1 c1 l2 c2 : Int) : Val Try.prog 68 [.pointer none, pos l1 c1, pos l2 c2] w (.int .i64 1) := by
  refine enterF Try.func68 rfl Try.ntmps68 rfl rfl ?_
  repeat first
    | refine W_seq ?_
    | refine W_skip ?_
    | refine W_block ?_
    | refine W_blk ?_
    | refine W_exit (by rfl) ?_
    | refine W_region (by rfl) ?_
    | refine W_opsnil ?_
    | refine W_pure TOk (by rfl) (by first | trivial | (simp only [okI, and_true, true_and, and_self] <;> omega)) ?_
    | refine W_on (by rfl) (by rfl) (by rfl) ?_
    | refine W_off (by rfl) (by rfl) (by rfl) (by rfl) (by rfl) ?_
    | refine W_offU (by rfl) (by rfl) (by rfl) (by rfl) ?_
    | refine W_cond_t (by rfl) ?_
    | refine W_cond_f (by rfl) ?_
  refine W_box (cs := [_, _]) (by rfl) (by rfl) (by rfl) (fun b1 => ?_)
  repeat first
    | refine W_seq ?_
    | refine W_skip ?_
    | refine W_block ?_
    | refine W_blk ?_
    | refine W_exit (by rfl) ?_
    | refine W_region (by rfl) ?_
    | refine W_opsnil ?_
    | refine W_pure TOk (by rfl) (by first | trivial | (simp only [okI, and_true, true_and, and_self] <;> omega)) ?_
    | refine W_on (by rfl) (by rfl) (by rfl) ?_
    | refine W_off (by rfl) (by rfl) (by rfl) (by rfl) (by rfl) ?_
    | refine W_offU (by rfl) (by rfl) (by rfl) (by rfl) ?_
    | refine W_cond_t (by rfl) ?_
    | refine W_cond_f (by rfl) ?_
  refine W_box (cs := [_, _]) (by rfl) (by rfl) (by rfl) (fun b2 => ?_)
  repeat first
    | refine W_seq ?_
    | refine W_skip ?_
    | refine W_block ?_
    | refine W_blk ?_
    | refine W_exit (by rfl) ?_
    | refine W_region (by rfl) ?_
    | refine W_opsnil ?_
    | refine W_pure TOk (by rfl) (by first | trivial | (simp only [okI, and_true, true_and, and_self] <;> omega)) ?_
    | refine W_on (by rfl) (by rfl) (by rfl) ?_
    | refine W_off (by rfl) (by rfl) (by rfl) (by rfl) (by rfl) ?_
    | refine W_offU (by rfl) (by rfl) (by rfl) (by rfl) ?_
    | refine W_cond_t (by rfl) ?_
    | refine W_cond_f (by rfl) ?_
    | refine W_load_box 0 TOk (by rfl) (by rfl) (by rfl) (by rfl) (by rfl) ?_
    | refine W_load_box 1 TOk (by rfl) (by rfl) (by rfl) (by rfl) (by rfl) ?_
    | refine W_load_boxN 0 TOk (by rfl) (by rfl) (by rfl) (by rfl) (by rfl) ?_
    | refine W_load_boxN 1 TOk (by rfl) (by rfl) (by rfl) (by rfl) (by rfl) ?_
    | (refine W_store_box 0 TOk (by rfl) (by rfl) (by rfl) (by rfl) (by rfl) (by rfl) ?_; dsimp only [setL, putL, vcells])
    | (refine W_store_box 1 TOk (by rfl) (by rfl) (by rfl) (by rfl) (by rfl) (by rfl) ?_; dsimp only [setL, putL, vcells])
  refine W_callV (by rfl) Try.call141 (by rfl) (fun w1 hw => between_no w1 l1 c1 l2 c2) ?_
  repeat first
    | refine W_seq ?_
    | refine W_skip ?_
    | refine W_block ?_
    | refine W_blk ?_
    | refine W_exit (by rfl) ?_
    | refine W_region (by rfl) ?_
    | refine W_opsnil ?_
    | refine W_pure TOk (by rfl) (by first | trivial | (simp only [okI, and_true, true_and, and_self] <;> omega)) ?_
    | refine W_on (by rfl) (by rfl) (by rfl) ?_
    | refine W_off (by rfl) (by rfl) (by rfl) (by rfl) (by rfl) ?_
    | refine W_offU (by rfl) (by rfl) (by rfl) (by rfl) ?_
    | refine W_cond_t (by rfl) ?_
    | refine W_cond_f (by rfl) ?_
    | refine W_load_box 0 TOk (by rfl) (by rfl) (by rfl) (by rfl) (by rfl) ?_
    | refine W_load_box 1 TOk (by rfl) (by rfl) (by rfl) (by rfl) (by rfl) ?_
    | refine W_load_boxN 0 TOk (by rfl) (by rfl) (by rfl) (by rfl) (by rfl) ?_
    | refine W_load_boxN 1 TOk (by rfl) (by rfl) (by rfl) (by rfl) (by rfl) ?_
    | (refine W_store_box 0 TOk (by rfl) (by rfl) (by rfl) (by rfl) (by rfl) (by rfl) ?_; dsimp only [setL, putL, vcells])
    | (refine W_store_box 1 TOk (by rfl) (by rfl) (by rfl) (by rfl) (by rfl) (by rfl) ?_; dsimp only [setL, putL, vcells])
  exact W_retF (vs := [_]) ⟨rfl, trivial⟩ (Ent.nil _) ⟨rfl, rfl⟩
set_option maxHeartbeats 1000000 in
theorem Delete_c (B : Nat) (w : World) (b : Nat) (x : List Int) (m : Nat) (l1 c1 l2 c2 : Int) (Lf : List Ast) (hB : B ≤ w.heap.size) (hL : Hp B w (textA b x m :: Lf)) (hm : m ≤ 1099511627776) :
    Turn Try.prog 68 [.pointer (some ⟨b, 0, none⟩), pos l1 c1, pos l2 c2] B w (fun v M => v = .int .i64 (delS x l1 c1 l2 c2).1 ∧ M = textA b (delS x l1 c1 l2 c2).2 m :: Lf) := by
  have hx : x.length ≤ 65536 := (textAt 0 hL rfl).big
  have hob1 := offS_bound x l1 c1
  have hob2 := offS_bound x l2 c2
  refine enterT hB hL Try.func68 rfl Try.ntmps68 rfl rfl ?_
  repeat first
    | refine W_seq ?_
    | refine W_skip ?_
    | refine W_block ?_
    | refine W_blk ?_
    | refine W_exit (by rfl) ?_
    | refine W_region (by rfl) ?_
    | refine W_opsnil ?_
    | refine W_pure TOk (by rfl) (by first | trivial | (simp only [okI, and_true, true_and, and_self] <;> omega)) ?_
    | refine W_on (by rfl) (by rfl) (by rfl) ?_
    | refine W_off (by rfl) (by rfl) (by rfl) (by rfl) (by rfl) ?_
    | refine W_offU (by rfl) (by rfl) (by rfl) (by rfl) ?_
    | refine W_cond_t (by rfl) ?_
    | refine W_cond_f (by rfl) ?_
  refine W_box (cs := [_, _]) (by rfl) (by rfl) (by rfl) (fun b1 => ?_)
  repeat first
    | refine W_seq ?_
    | refine W_skip ?_
    | refine W_block ?_
    | refine W_blk ?_
    | refine W_exit (by rfl) ?_
    | refine W_region (by rfl) ?_
    | refine W_opsnil ?_
    | refine W_pure TOk (by rfl) (by first | trivial | (simp only [okI, and_true, true_and, and_self] <;> omega)) ?_
    | refine W_on (by rfl) (by rfl) (by rfl) ?_
    | refine W_off (by rfl) (by rfl) (by rfl) (by rfl) (by rfl) ?_
    | refine W_offU (by rfl) (by rfl) (by rfl) (by rfl) ?_
    | refine W_cond_t (by rfl) ?_
    | refine W_cond_f (by rfl) ?_
  refine W_box (cs := [_, _]) (by rfl) (by rfl) (by rfl) (fun b2 => ?_)
  repeat first
    | refine W_seq ?_
    | refine W_skip ?_
    | refine W_block ?_
    | refine W_blk ?_
    | refine W_exit (by rfl) ?_
    | refine W_region (by rfl) ?_
    | refine W_opsnil ?_
    | refine W_pure TOk (by rfl) (by first | trivial | (simp only [okI, and_true, true_and, and_self] <;> omega)) ?_
    | refine W_on (by rfl) (by rfl) (by rfl) ?_
    | refine W_off (by rfl) (by rfl) (by rfl) (by rfl) (by rfl) ?_
    | refine W_offU (by rfl) (by rfl) (by rfl) (by rfl) ?_
    | refine W_cond_t (by rfl) ?_
    | refine W_cond_f (by rfl) ?_
    | refine W_load_box 0 TOk (by rfl) (by rfl) (by rfl) (by rfl) (by rfl) ?_
    | refine W_load_box 1 TOk (by rfl) (by rfl) (by rfl) (by rfl) (by rfl) ?_
    | refine W_load_boxN 0 TOk (by rfl) (by rfl) (by rfl) (by rfl) (by rfl) ?_
    | refine W_load_boxN 1 TOk (by rfl) (by rfl) (by rfl) (by rfl) (by rfl) ?_
    | (refine W_store_box 0 TOk (by rfl) (by rfl) (by rfl) (by rfl) (by rfl) (by rfl) ?_; dsimp only [setL, putL, vcells])
    | (refine W_store_box 1 TOk (by rfl) (by rfl) (by rfl) (by rfl) (by rfl) (by rfl) ?_; dsimp only [setL, putL, vcells])
  refine W_callV (by rfl) Try.call141 (by rfl) (fun w1 hw => between_c w1 b x l1 c1 l2 c2 (textAt 2 hw.hp rfl)) ?_
  repeat first
    | refine W_seq ?_
    | refine W_skip ?_
    | refine W_block ?_
    | refine W_blk ?_
    | refine W_exit (by rfl) ?_
    | refine W_region (by rfl) ?_
    | refine W_opsnil ?_
    | refine W_pure TOk (by rfl) (by first | trivial | (simp only [okI, and_true, true_and, and_self] <;> omega)) ?_
    | refine W_on (by rfl) (by rfl) (by rfl) ?_
    | refine W_off (by rfl) (by rfl) (by rfl) (by rfl) (by rfl) ?_
    | refine W_offU (by rfl) (by rfl) (by rfl) (by rfl) ?_
    | refine W_cond_t (by rfl) ?_
    | refine W_cond_f (by rfl) ?_
    | refine W_load_box 0 TOk (by rfl) (by rfl) (by rfl) (by rfl) (by rfl) ?_
    | refine W_load_box 1 TOk (by rfl) (by rfl) (by rfl) (by rfl) (by rfl) ?_
    | refine W_load_boxN 0 TOk (by rfl) (by rfl) (by rfl) (by rfl) (by rfl) ?_
    | refine W_load_boxN 1 TOk (by rfl) (by rfl) (by rfl) (by rfl) (by rfl) ?_
    | (refine W_store_box 0 TOk (by rfl) (by rfl) (by rfl) (by rfl) (by rfl) (by rfl) ?_; dsimp only [setL, putL, vcells])
    | (refine W_store_box 1 TOk (by rfl) (by rfl) (by rfl) (by rfl) (by rfl) (by rfl) ?_; dsimp only [setL, putL, vcells])
  refine W_cond_nd (by rfl) (fun he => ?_) (fun he => ?_)
  · repeat first
      | refine W_seq ?_
      | refine W_skip ?_
      | refine W_block ?_
      | refine W_blk ?_
      | refine W_exit (by rfl) ?_
      | refine W_region (by rfl) ?_
      | refine W_opsnil ?_
      | refine W_pure TOk (by rfl) (by first | trivial | (simp only [okI, and_true, true_and, and_self] <;> omega)) ?_
      | refine W_on (by rfl) (by rfl) (by rfl) ?_
      | refine W_off (by rfl) (by rfl) (by rfl) (by rfl) (by rfl) ?_
      | refine W_offU (by rfl) (by rfl) (by rfl) (by rfl) ?_
      | refine W_cond_t (by rfl) ?_
      | refine W_cond_f (by rfl) ?_
      | refine W_load_box 0 TOk (by rfl) (by rfl) (by rfl) (by rfl) (by rfl) ?_
      | refine W_load_box 1 TOk (by rfl) (by rfl) (by rfl) (by rfl) (by rfl) ?_
      | refine W_load_boxN 0 TOk (by rfl) (by rfl) (by rfl) (by rfl) (by rfl) ?_
      | refine W_load_boxN 1 TOk (by rfl) (by rfl) (by rfl) (by rfl) (by rfl) ?_
      | (refine W_store_box 0 TOk (by rfl) (by rfl) (by rfl) (by rfl) (by rfl) (by rfl) ?_; dsimp only [setL, putL, vcells])
      | (refine W_store_box 1 TOk (by rfl) (by rfl) (by rfl) (by rfl) (by rfl) (by rfl) ?_; dsimp only [setL, putL, vcells])
    refine W_retT (vs := [_]) ⟨rfl, trivial⟩ (Ent.drop2 _ _ _) ⟨?_, ?_⟩
    · unfold delS; rw [if_pos he]; rfl
    · unfold delS; rw [if_pos he]
  · obtain ⟨z1, z2, z3, z4, z5⟩ := betS_zero he
    repeat first
      | refine W_seq ?_
      | refine W_skip ?_
      | refine W_block ?_
      | refine W_blk ?_
      | refine W_exit (by rfl) ?_
      | refine W_region (by rfl) ?_
      | refine W_opsnil ?_
      | refine W_pure TOk (by rfl) (by first | trivial | (simp only [okI, and_true, true_and, and_self] <;> omega)) ?_
      | refine W_on (by rfl) (by rfl) (by rfl) ?_
      | refine W_off (by rfl) (by rfl) (by rfl) (by rfl) (by rfl) ?_
      | refine W_offU (by rfl) (by rfl) (by rfl) (by rfl) ?_
      | refine W_cond_t (by rfl) ?_
      | refine W_cond_f (by rfl) ?_
      | refine W_load_box 0 TOk (by rfl) (by rfl) (by rfl) (by rfl) (by rfl) ?_
      | refine W_load_box 1 TOk (by rfl) (by rfl) (by rfl) (by rfl) (by rfl) ?_
      | refine W_load_boxN 0 TOk (by rfl) (by rfl) (by rfl) (by rfl) (by rfl) ?_
      | refine W_load_boxN 1 TOk (by rfl) (by rfl) (by rfl) (by rfl) (by rfl) ?_
      | (refine W_store_box 0 TOk (by rfl) (by rfl) (by rfl) (by rfl) (by rfl) (by rfl) ?_; dsimp only [setL, putL, vcells])
      | (refine W_store_box 1 TOk (by rfl) (by rfl) (by rfl) (by rfl) (by rfl) (by rfl) ?_; dsimp only [setL, putL, vcells])
    have hn1 : (betS x l1 c1 l2 c2).1 = (((betS x l1 c1 l2 c2).1.toNat : Nat) : Int) := by omega
    have hn2 : (betS x l1 c1 l2 c2).2.1 = (((betS x l1 c1 l2 c2).2.1.toNat : Nat) : Int) := by omega
    rw [hn1, hn2]
    refine W_ent (Ent.drop2 _ _ _) ?_
    refine W_turn _ (by rfl) Try.call140 (by rfl) (fun w1 hw => chgS_c _ w1 b x m (betS x l1 c1 l2 c2).1.toNat (betS x l1 c1 l2 c2).2.1.toNat none 0 [] Lf hw.le hw.hp Reads.nil (by omega) (by simp) hm) ?_
    rintro _ _ ⟨rfl, rfl⟩
    repeat first
      | refine W_seq ?_
      | refine W_skip ?_
      | refine W_block ?_
      | refine W_blk ?_
      | refine W_exit (by rfl) ?_
      | refine W_region (by rfl) ?_
      | refine W_opsnil ?_
      | refine W_pure TOk (by rfl) (by first | trivial | (simp only [okI, and_true, true_and, and_self] <;> omega)) ?_
      | refine W_on (by rfl) (by rfl) (by rfl) ?_
      | refine W_off (by rfl) (by rfl) (by rfl) (by rfl) (by rfl) ?_
      | refine W_offU (by rfl) (by rfl) (by rfl) (by rfl) ?_
      | refine W_cond_t (by rfl) ?_
      | refine W_cond_f (by rfl) ?_
    refine W_retT (vs := [_]) ⟨rfl, trivial⟩ (Ent.refl _) ⟨?_, ?_⟩
    · unfold delS; rw [if_neg (by simpa using he)]; rfl
    · unfold delS; rw [if_neg (by simpa using he)]; simp
def sliS (x : List Int) (l1 c1 l2 c2 : Int) : List Int × Int := if (betS x l1 c1 l2 c2).2.2 ≠ 0 then ([], (betS x l1 c1 l2 c2).2.2) else ((x.drop (betS x l1 c1 l2 c2).1.toNat).take (betS x l1 c1 l2 c2).2.1.toNat, 0)
def RowE (r : List Int × Int) (v : Value) (M : List Ast) : Prop := ∃ A c, v = .tuple #[.slice A r.1.length c, .int .i64 r.2] ∧ M = [own 21 1 A r.1.length c (i32s r.1)]
set_option maxHeartbeats 1000000 in
theorem Slice_no (w : World) (l1 c1 l2 c2 : Int) : Val Try.prog 67 [.pointer none, pos l1 c1, pos l2 c2] w (.tuple #[.slice none 0 0, .int .i64 1]) := by
  refine enterF Try.func67 rfl Try.ntmps67 rfl rfl ?_
  repeat first
    | refine W_seq ?_
    | refine W_skip ?_
    | refine W_block ?_
    | refine W_blk ?_
    | refine W_exit (by rfl) ?_
    | refine W_region (by rfl) ?_
    | refine W_opsnil ?_
    | refine W_pure TOk (by rfl) (by first | trivial | (simp only [okI, and_true, true_and, and_self] <;> omega)) ?_
    | refine W_on (by rfl) (by rfl) (by rfl) ?_
    | refine W_off (by rfl) (by rfl) (by rfl) (by rfl) (by rfl) ?_
    | refine W_offU (by rfl) (by rfl) (by rfl) (by rfl) ?_
    | refine W_cond_t (by rfl) ?_
    | refine W_cond_f (by rfl) ?_
  refine W_box (cs := [_, _]) (by rfl) (by rfl) (by rfl) (fun b1 => ?_)
  repeat first
    | refine W_seq ?_
    | refine W_skip ?_
    | refine W_block ?_
    | refine W_blk ?_
    | refine W_exit (by rfl) ?_
    | refine W_region (by rfl) ?_
    | refine W_opsnil ?_
    | refine W_pure TOk (by rfl) (by first | trivial | (simp only [okI, and_true, true_and, and_self] <;> omega)) ?_
    | refine W_on (by rfl) (by rfl) (by rfl) ?_
    | refine W_off (by rfl) (by rfl) (by rfl) (by rfl) (by rfl) ?_
    | refine W_offU (by rfl) (by rfl) (by rfl) (by rfl) ?_
    | refine W_cond_t (by rfl) ?_
    | refine W_cond_f (by rfl) ?_
  refine W_box (cs := [_, _]) (by rfl) (by rfl) (by rfl) (fun b2 => ?_)
  repeat first
    | refine W_seq ?_
    | refine W_skip ?_
    | refine W_block ?_
    | refine W_blk ?_
    | refine W_exit (by rfl) ?_
    | refine W_region (by rfl) ?_
    | refine W_opsnil ?_
    | refine W_pure TOk (by rfl) (by first | trivial | (simp only [okI, and_true, true_and, and_self] <;> omega)) ?_
    | refine W_on (by rfl) (by rfl) (by rfl) ?_
    | refine W_off (by rfl) (by rfl) (by rfl) (by rfl) (by rfl) ?_
    | refine W_offU (by rfl) (by rfl) (by rfl) (by rfl) ?_
    | refine W_cond_t (by rfl) ?_
    | refine W_cond_f (by rfl) ?_
    | refine W_load_box 0 TOk (by rfl) (by rfl) (by rfl) (by rfl) (by rfl) ?_
    | refine W_load_box 1 TOk (by rfl) (by rfl) (by rfl) (by rfl) (by rfl) ?_
    | refine W_load_boxN 0 TOk (by rfl) (by rfl) (by rfl) (by rfl) (by rfl) ?_
    | refine W_load_boxN 1 TOk (by rfl) (by rfl) (by rfl) (by rfl) (by rfl) ?_
    | (refine W_store_box 0 TOk (by rfl) (by rfl) (by rfl) (by rfl) (by rfl) (by rfl) ?_; dsimp only [setL, putL, vcells])
    | (refine W_store_box 1 TOk (by rfl) (by rfl) (by rfl) (by rfl) (by rfl) (by rfl) ?_; dsimp only [setL, putL, vcells])
  refine W_callV (by rfl) Try.call141 (by rfl) (fun w1 hw => between_no w1 l1 c1 l2 c2) ?_
  repeat first
    | refine W_seq ?_
    | refine W_skip ?_
    | refine W_block ?_
    | refine W_blk ?_
    | refine W_exit (by rfl) ?_
    | refine W_region (by rfl) ?_
    | refine W_opsnil ?_
    | refine W_pure TOk (by rfl) (by first | trivial | (simp only [okI, and_true, true_and, and_self] <;> omega)) ?_
    | refine W_on (by rfl) (by rfl) (by rfl) ?_
    | refine W_off (by rfl) (by rfl) (by rfl) (by rfl) (by rfl) ?_
    | refine W_offU (by rfl) (by rfl) (by rfl) (by rfl) ?_
    | refine W_cond_t (by rfl) ?_
    | refine W_cond_f (by rfl) ?_
    | refine W_load_box 0 TOk (by rfl) (by rfl) (by rfl) (by rfl) (by rfl) ?_
    | refine W_load_box 1 TOk (by rfl) (by rfl) (by rfl) (by rfl) (by rfl) ?_
    | refine W_load_boxN 0 TOk (by rfl) (by rfl) (by rfl) (by rfl) (by rfl) ?_
    | refine W_load_boxN 1 TOk (by rfl) (by rfl) (by rfl) (by rfl) (by rfl) ?_
    | (refine W_store_box 0 TOk (by rfl) (by rfl) (by rfl) (by rfl) (by rfl) (by rfl) ?_; dsimp only [setL, putL, vcells])
    | (refine W_store_box 1 TOk (by rfl) (by rfl) (by rfl) (by rfl) (by rfl) (by rfl) ?_; dsimp only [setL, putL, vcells])
  exact W_retF (vs := [_, _]) ⟨rfl, rfl, trivial⟩ (Ent.nil _) ⟨rfl, rfl⟩
set_option maxHeartbeats 1000000 in
theorem Slice_c (w : World) (b : Nat) (x : List Int) (l1 c1 l2 c2 : Int) (h : TextAt w b x) : Fresh Try.prog 67 [.pointer (some ⟨b, 0, none⟩), pos l1 c1, pos l2 c2] w (RowE (sliS x l1 c1 l2 c2)) := by
  have hx : x.length ≤ 65536 := h.big
  have hob1 := offS_bound x l1 c1
  have hob2 := offS_bound x l2 c2
  obtain ⟨tb, A, c, ss, h1, h2, h3, h4, h5⟩ := h.ex
  refine enterF Try.func67 rfl Try.ntmps67 rfl rfl ?_
  repeat first
    | refine W_seq ?_
    | refine W_skip ?_
    | refine W_block ?_
    | refine W_blk ?_
    | refine W_exit (by rfl) ?_
    | refine W_region (by rfl) ?_
    | refine W_opsnil ?_
    | refine W_pure TOk (by rfl) (by first | trivial | (simp only [okI, and_true, true_and, and_self] <;> omega)) ?_
    | refine W_on (by rfl) (by rfl) (by rfl) ?_
    | refine W_off (by rfl) (by rfl) (by rfl) (by rfl) (by rfl) ?_
    | refine W_offU (by rfl) (by rfl) (by rfl) (by rfl) ?_
    | refine W_cond_t (by rfl) ?_
    | refine W_cond_f (by rfl) ?_
  refine W_box (cs := [_, _]) (by rfl) (by rfl) (by rfl) (fun b1 => ?_)
  repeat first
    | refine W_seq ?_
    | refine W_skip ?_
    | refine W_block ?_
    | refine W_blk ?_
    | refine W_exit (by rfl) ?_
    | refine W_region (by rfl) ?_
    | refine W_opsnil ?_
    | refine W_pure TOk (by rfl) (by first | trivial | (simp only [okI, and_true, true_and, and_self] <;> omega)) ?_
    | refine W_on (by rfl) (by rfl) (by rfl) ?_
    | refine W_off (by rfl) (by rfl) (by rfl) (by rfl) (by rfl) ?_
    | refine W_offU (by rfl) (by rfl) (by rfl) (by rfl) ?_
    | refine W_cond_t (by rfl) ?_
    | refine W_cond_f (by rfl) ?_
  refine W_box (cs := [_, _]) (by rfl) (by rfl) (by rfl) (fun b2 => ?_)
  repeat first
    | refine W_seq ?_
    | refine W_skip ?_
    | refine W_block ?_
    | refine W_blk ?_
    | refine W_exit (by rfl) ?_
    | refine W_region (by rfl) ?_
    | refine W_opsnil ?_
    | refine W_pure TOk (by rfl) (by first | trivial | (simp only [okI, and_true, true_and, and_self] <;> omega)) ?_
    | refine W_on (by rfl) (by rfl) (by rfl) ?_
    | refine W_off (by rfl) (by rfl) (by rfl) (by rfl) (by rfl) ?_
    | refine W_offU (by rfl) (by rfl) (by rfl) (by rfl) ?_
    | refine W_cond_t (by rfl) ?_
    | refine W_cond_f (by rfl) ?_
    | refine W_load_box 0 TOk (by rfl) (by rfl) (by rfl) (by rfl) (by rfl) ?_
    | refine W_load_box 1 TOk (by rfl) (by rfl) (by rfl) (by rfl) (by rfl) ?_
    | refine W_load_boxN 0 TOk (by rfl) (by rfl) (by rfl) (by rfl) (by rfl) ?_
    | refine W_load_boxN 1 TOk (by rfl) (by rfl) (by rfl) (by rfl) (by rfl) ?_
    | (refine W_store_box 0 TOk (by rfl) (by rfl) (by rfl) (by rfl) (by rfl) (by rfl) ?_; dsimp only [setL, putL, vcells])
    | (refine W_store_box 1 TOk (by rfl) (by rfl) (by rfl) (by rfl) (by rfl) (by rfl) ?_; dsimp only [setL, putL, vcells])
  refine W_callV (by rfl) Try.call141 (by rfl) (fun w1 hw => between_c w1 b x l1 c1 l2 c2 (h.below hw.below)) ?_
  repeat first
    | refine W_seq ?_
    | refine W_skip ?_
    | refine W_block ?_
    | refine W_blk ?_
    | refine W_exit (by rfl) ?_
    | refine W_region (by rfl) ?_
    | refine W_opsnil ?_
    | refine W_pure TOk (by rfl) (by first | trivial | (simp only [okI, and_true, true_and, and_self] <;> omega)) ?_
    | refine W_on (by rfl) (by rfl) (by rfl) ?_
    | refine W_off (by rfl) (by rfl) (by rfl) (by rfl) (by rfl) ?_
    | refine W_offU (by rfl) (by rfl) (by rfl) (by rfl) ?_
    | refine W_cond_t (by rfl) ?_
    | refine W_cond_f (by rfl) ?_
    | refine W_load_box 0 TOk (by rfl) (by rfl) (by rfl) (by rfl) (by rfl) ?_
    | refine W_load_box 1 TOk (by rfl) (by rfl) (by rfl) (by rfl) (by rfl) ?_
    | refine W_load_boxN 0 TOk (by rfl) (by rfl) (by rfl) (by rfl) (by rfl) ?_
    | refine W_load_boxN 1 TOk (by rfl) (by rfl) (by rfl) (by rfl) (by rfl) ?_
    | (refine W_store_box 0 TOk (by rfl) (by rfl) (by rfl) (by rfl) (by rfl) (by rfl) ?_; dsimp only [setL, putL, vcells])
    | (refine W_store_box 1 TOk (by rfl) (by rfl) (by rfl) (by rfl) (by rfl) (by rfl) ?_; dsimp only [setL, putL, vcells])
  refine W_cond_nd (by rfl) (fun he => ?_) (fun he => ?_)
  · repeat first
      | refine W_seq ?_
      | refine W_skip ?_
      | refine W_block ?_
      | refine W_blk ?_
      | refine W_exit (by rfl) ?_
      | refine W_region (by rfl) ?_
      | refine W_opsnil ?_
      | refine W_pure TOk (by rfl) (by first | trivial | (simp only [okI, and_true, true_and, and_self] <;> omega)) ?_
      | refine W_on (by rfl) (by rfl) (by rfl) ?_
      | refine W_off (by rfl) (by rfl) (by rfl) (by rfl) (by rfl) ?_
      | refine W_offU (by rfl) (by rfl) (by rfl) (by rfl) ?_
      | refine W_cond_t (by rfl) ?_
      | refine W_cond_f (by rfl) ?_
      | refine W_load_box 0 TOk (by rfl) (by rfl) (by rfl) (by rfl) (by rfl) ?_
      | refine W_load_box 1 TOk (by rfl) (by rfl) (by rfl) (by rfl) (by rfl) ?_
      | refine W_load_boxN 0 TOk (by rfl) (by rfl) (by rfl) (by rfl) (by rfl) ?_
      | refine W_load_boxN 1 TOk (by rfl) (by rfl) (by rfl) (by rfl) (by rfl) ?_
      | (refine W_store_box 0 TOk (by rfl) (by rfl) (by rfl) (by rfl) (by rfl) (by rfl) ?_; dsimp only [setL, putL, vcells])
      | (refine W_store_box 1 TOk (by rfl) (by rfl) (by rfl) (by rfl) (by rfl) (by rfl) ?_; dsimp only [setL, putL, vcells])
    have e : sliS x l1 c1 l2 c2 = ([], (betS x l1 c1 l2 c2).2.2) := by unfold sliS; rw [if_pos he]
    rw [e]
    exact W_retF (vs := [_, _]) ⟨rfl, rfl, trivial⟩ ((Ent.nil _).trans (Ent.own_zero _ _ _ _)) ⟨none, 0, rfl, rfl⟩
  · obtain ⟨z1, z2, z3, z4, z5⟩ := betS_zero he
    repeat first
      | refine W_seq ?_
      | refine W_skip ?_
      | refine W_block ?_
      | refine W_blk ?_
      | refine W_exit (by rfl) ?_
      | refine W_region (by rfl) ?_
      | refine W_opsnil ?_
      | refine W_pure TOk (by rfl) (by first | trivial | (simp only [okI, and_true, true_and, and_self] <;> omega)) ?_
      | refine W_on (by rfl) (by rfl) (by rfl) ?_
      | refine W_off (by rfl) (by rfl) (by rfl) (by rfl) (by rfl) ?_
      | refine W_offU (by rfl) (by rfl) (by rfl) (by rfl) ?_
      | refine W_cond_t (by rfl) ?_
      | refine W_cond_f (by rfl) ?_
      | refine W_load_box 0 TOk (by rfl) (by rfl) (by rfl) (by rfl) (by rfl) ?_
      | refine W_load_box 1 TOk (by rfl) (by rfl) (by rfl) (by rfl) (by rfl) ?_
      | refine W_load_boxN 0 TOk (by rfl) (by rfl) (by rfl) (by rfl) (by rfl) ?_
      | refine W_load_boxN 1 TOk (by rfl) (by rfl) (by rfl) (by rfl) (by rfl) ?_
      | (refine W_store_box 0 TOk (by rfl) (by rfl) (by rfl) (by rfl) (by rfl) (by rfl) ?_; dsimp only [setL, putL, vcells])
      | (refine W_store_box 1 TOk (by rfl) (by rfl) (by rfl) (by rfl) (by rfl) (by rfl) ?_; dsimp only [setL, putL, vcells])
    refine W_load TOk (by rfl) (by rfl) (by rfl) (fun w1 hw => ⟨_, rfl, (h2.below hw.below) 0 _ rfl⟩) ?_
    repeat first
      | refine W_seq ?_
      | refine W_skip ?_
      | refine W_block ?_
      | refine W_blk ?_
      | refine W_exit (by rfl) ?_
      | refine W_region (by rfl) ?_
      | refine W_opsnil ?_
      | refine W_pure TOk (by rfl) (by first | trivial | (simp only [okI, and_true, true_and, and_self] <;> omega)) ?_
      | refine W_on (by rfl) (by rfl) (by rfl) ?_
      | refine W_off (by rfl) (by rfl) (by rfl) (by rfl) (by rfl) ?_
      | refine W_offU (by rfl) (by rfl) (by rfl) (by rfl) ?_
      | refine W_cond_t (by rfl) ?_
      | refine W_cond_f (by rfl) ?_
      | refine W_load_box 0 TOk (by rfl) (by rfl) (by rfl) (by rfl) (by rfl) ?_
      | refine W_load_box 1 TOk (by rfl) (by rfl) (by rfl) (by rfl) (by rfl) ?_
      | refine W_load_boxN 0 TOk (by rfl) (by rfl) (by rfl) (by rfl) (by rfl) ?_
      | refine W_load_boxN 1 TOk (by rfl) (by rfl) (by rfl) (by rfl) (by rfl) ?_
      | (refine W_store_box 0 TOk (by rfl) (by rfl) (by rfl) (by rfl) (by rfl) (by rfl) ?_; dsimp only [setL, putL, vcells])
      | (refine W_store_box 1 TOk (by rfl) (by rfl) (by rfl) (by rfl) (by rfl) (by rfl) ?_; dsimp only [setL, putL, vcells])
    have hn1 : (betS x l1 c1 l2 c2).1 = (((betS x l1 c1 l2 c2).1.toNat : Nat) : Int) := by omega
    have hn2 : (betS x l1 c1 l2 c2).2.1 = (((betS x l1 c1 l2 c2).2.1.toNat : Nat) : Int) := by omega
    rw [hn1, hn2]
    refine W_call _ (by rfl) Try.call139 (by rfl) (fun w1 hw => pslice_c w1 tb x (betS x l1 c1 l2 c2).1.toNat (betS x l1 c1 l2 c2).2.1.toNat (h3.below hw.below) (by omega)) ?_
    rintro _ _ ⟨A5, c5, rfl, rfl⟩
    dsimp only [List.cons_append, List.nil_append]
    repeat first
      | refine W_seq ?_
      | refine W_skip ?_
      | refine W_block ?_
      | refine W_blk ?_
      | refine W_exit (by rfl) ?_
      | refine W_region (by rfl) ?_
      | refine W_opsnil ?_
      | refine W_pure TOk (by rfl) (by first | trivial | (simp only [okI, and_true, true_and, and_self] <;> omega)) ?_
      | refine W_on (by rfl) (by rfl) (by rfl) ?_
      | refine W_off (by rfl) (by rfl) (by rfl) (by rfl) (by rfl) ?_
      | refine W_offU (by rfl) (by rfl) (by rfl) (by rfl) ?_
      | refine W_cond_t (by rfl) ?_
      | refine W_cond_f (by rfl) ?_
    have e : sliS x l1 c1 l2 c2 = ((x.drop (betS x l1 c1 l2 c2).1.toNat).take (betS x l1 c1 l2 c2).2.1.toNat, 0) := by unfold sliS; rw [if_neg (by simpa using he)]
    have hl : ((x.drop (betS x l1 c1 l2 c2).1.toNat).take (betS x l1 c1 l2 c2).2.1.toNat).length = (betS x l1 c1 l2 c2).2.1.toNat := cut_eq (by omega)
    refine W_retF (vs := [_, _]) ⟨rfl, rfl, trivial⟩ (Ent.cons _ (Ent.nil _)) ⟨A5, c5, ?_, ?_⟩
    · rw [e]; dsimp only; rw [hl]; rfl
    · rw [e]; dsimp only; rw [hl]
/-- Line i of a row of runes. -/
def linS (x : List Int) (i : Int) : List Int × Int := if 0 ≤ i ∧ i < (lens x).length then ((x.drop (beg x i.toNat)).take (siz x i.toNat), 0) else ([], 2)
set_option maxHeartbeats 1000000 in
theorem Line_no (w : World) (i : Int) : Val Try.prog 69 [.pointer none, .int .i64 i] w (.tuple #[.slice none 0 0, .int .i64 1]) := by
  refine enterF Try.func69 rfl Try.ntmps69 rfl rfl ?_
  repeat first
    | refine W_seq ?_
    | refine W_skip ?_
    | refine W_block ?_
    | refine W_blk ?_
    | refine W_exit (by rfl) ?_
    | refine W_region (by rfl) ?_
    | refine W_opsnil ?_
    | refine W_pure TOk (by rfl) (by first | trivial | (simp only [okI, and_true, true_and, and_self] <;> omega)) ?_
    | refine W_on (by rfl) (by rfl) (by rfl) ?_
    | refine W_off (by rfl) (by rfl) (by rfl) (by rfl) (by rfl) ?_
    | refine W_offU (by rfl) (by rfl) (by rfl) (by rfl) ?_
    | refine W_cond_t (by rfl) ?_
    | refine W_cond_f (by rfl) ?_
  exact W_retF (vs := [_, _]) ⟨rfl, rfl, trivial⟩ (Ent.nil _) ⟨rfl, rfl⟩
set_option maxHeartbeats 1000000 in
theorem Line_c (w : World) (b : Nat) (x : List Int) (i : Int) (h : TextAt w b x) : Fresh Try.prog 69 [.pointer (some ⟨b, 0, none⟩), .int .i64 i] w (RowE (linS x i)) := by
  have hx : x.length ≤ 65536 := h.big
  have hll := lens_le x
  obtain ⟨tb, A, c, ss, h1, h2, h3, h4, h5⟩ := h.ex
  refine enterF Try.func69 rfl Try.ntmps69 rfl rfl ?_
  repeat first
    | refine W_seq ?_
    | refine W_skip ?_
    | refine W_block ?_
    | refine W_blk ?_
    | refine W_exit (by rfl) ?_
    | refine W_region (by rfl) ?_
    | refine W_opsnil ?_
    | refine W_pure TOk (by rfl) (by first | trivial | (simp only [okI, and_true, true_and, and_self] <;> omega)) ?_
    | refine W_on (by rfl) (by rfl) (by rfl) ?_
    | refine W_off (by rfl) (by rfl) (by rfl) (by rfl) (by rfl) ?_
    | refine W_offU (by rfl) (by rfl) (by rfl) (by rfl) ?_
    | refine W_cond_t (by rfl) ?_
    | refine W_cond_f (by rfl) ?_
  refine W_dec 12 (by rfl) (fun hd => ?_) (fun hd => ?_)
  · have hn := of_decide_eq_true hd
    repeat first
      | refine W_seq ?_
      | refine W_skip ?_
      | refine W_block ?_
      | refine W_blk ?_
      | refine W_exit (by rfl) ?_
      | refine W_region (by rfl) ?_
      | refine W_opsnil ?_
      | refine W_pure TOk (by rfl) (by first | trivial | (simp only [okI, and_true, true_and, and_self] <;> omega)) ?_
      | refine W_on (by rfl) (by rfl) (by rfl) ?_
      | refine W_off (by rfl) (by rfl) (by rfl) (by rfl) (by rfl) ?_
      | refine W_offU (by rfl) (by rfl) (by rfl) (by rfl) ?_
      | refine W_cond_t (by rfl) ?_
      | refine W_cond_f (by rfl) ?_
    have e : linS x i = ([], 2) := by unfold linS; rw [if_neg (by omega)]
    rw [e]
    exact W_retF (vs := [_, _]) ⟨rfl, rfl, trivial⟩ ((Ent.nil _).trans (Ent.own_zero _ _ _ _)) ⟨none, 0, rfl, rfl⟩
  · have hn := of_decide_eq_false hd
    repeat first
      | refine W_seq ?_
      | refine W_skip ?_
      | refine W_block ?_
      | refine W_blk ?_
      | refine W_exit (by rfl) ?_
      | refine W_region (by rfl) ?_
      | refine W_opsnil ?_
      | refine W_pure TOk (by rfl) (by first | trivial | (simp only [okI, and_true, true_and, and_self] <;> omega)) ?_
      | refine W_on (by rfl) (by rfl) (by rfl) ?_
      | refine W_off (by rfl) (by rfl) (by rfl) (by rfl) (by rfl) ?_
      | refine W_offU (by rfl) (by rfl) (by rfl) (by rfl) ?_
      | refine W_cond_t (by rfl) ?_
      | refine W_cond_f (by rfl) ?_
    refine W_load TOk (by rfl) (by rfl) (by rfl) (fun w1 hw => ⟨_, rfl, (h2.below hw.below) 2 _ rfl⟩) ?_
    repeat first
      | refine W_seq ?_
      | refine W_skip ?_
      | refine W_block ?_
      | refine W_blk ?_
      | refine W_exit (by rfl) ?_
      | refine W_region (by rfl) ?_
      | refine W_opsnil ?_
      | refine W_pure TOk (by rfl) (by first | trivial | (simp only [okI, and_true, true_and, and_self] <;> omega)) ?_
      | refine W_on (by rfl) (by rfl) (by rfl) ?_
      | refine W_off (by rfl) (by rfl) (by rfl) (by rfl) (by rfl) ?_
      | refine W_offU (by rfl) (by rfl) (by rfl) (by rfl) ?_
      | refine W_cond_t (by rfl) ?_
      | refine W_cond_f (by rfl) ?_
    refine W_cond_d (by rfl) (fun hge => ?_) (fun hlt => ?_)
    · repeat first
        | refine W_seq ?_
        | refine W_skip ?_
        | refine W_block ?_
        | refine W_blk ?_
        | refine W_exit (by rfl) ?_
        | refine W_region (by rfl) ?_
        | refine W_opsnil ?_
        | refine W_pure TOk (by rfl) (by first | trivial | (simp only [okI, and_true, true_and, and_self] <;> omega)) ?_
        | refine W_on (by rfl) (by rfl) (by rfl) ?_
        | refine W_off (by rfl) (by rfl) (by rfl) (by rfl) (by rfl) ?_
        | refine W_offU (by rfl) (by rfl) (by rfl) (by rfl) ?_
        | refine W_cond_t (by rfl) ?_
        | refine W_cond_f (by rfl) ?_
      have e : linS x i = ([], 2) := by unfold linS; rw [if_neg (by omega)]
      rw [e]
      exact W_retF (vs := [_, _]) ⟨rfl, rfl, trivial⟩ ((Ent.nil _).trans (Ent.own_zero _ _ _ _)) ⟨none, 0, rfl, rfl⟩
    · obtain ⟨k, rfl⟩ : ∃ k : Nat, i = (k : Int) := ⟨i.toNat, by omega⟩
      have hs := siz_le (x := x) (i := k) (by omega)
      repeat first
        | refine W_seq ?_
        | refine W_skip ?_
        | refine W_block ?_
        | refine W_blk ?_
        | refine W_exit (by rfl) ?_
        | refine W_region (by rfl) ?_
        | refine W_opsnil ?_
        | refine W_pure TOk (by rfl) (by first | trivial | (simp only [okI, and_true, true_and, and_self] <;> omega)) ?_
        | refine W_on (by rfl) (by rfl) (by rfl) ?_
        | refine W_off (by rfl) (by rfl) (by rfl) (by rfl) (by rfl) ?_
        | refine W_offU (by rfl) (by rfl) (by rfl) (by rfl) ?_
        | refine W_cond_t (by rfl) ?_
        | refine W_cond_f (by rfl) ?_
      refine W_callV (by rfl) Try.call110 (by rfl) (fun w1 hw => start_c w1 b A c ss k ((h2.below hw.below) 1 _ rfl) (h4.below hw.below) (h1.ok hx) (by omega) (by omega)) ?_
      rw [h1.flat, beg_start, rd_siz]
      repeat first
        | refine W_seq ?_
        | refine W_skip ?_
        | refine W_block ?_
        | refine W_blk ?_
        | refine W_exit (by rfl) ?_
        | refine W_region (by rfl) ?_
        | refine W_opsnil ?_
        | refine W_pure TOk (by rfl) (by first | trivial | (simp only [okI, and_true, true_and, and_self] <;> omega)) ?_
        | refine W_on (by rfl) (by rfl) (by rfl) ?_
        | refine W_off (by rfl) (by rfl) (by rfl) (by rfl) (by rfl) ?_
        | refine W_offU (by rfl) (by rfl) (by rfl) (by rfl) ?_
        | refine W_cond_t (by rfl) ?_
        | refine W_cond_f (by rfl) ?_
      refine W_load TOk (by rfl) (by rfl) (by rfl) (fun w1 hw => ⟨_, rfl, (h2.below hw.below) 0 _ rfl⟩) ?_
      repeat first
        | refine W_seq ?_
        | refine W_skip ?_
        | refine W_block ?_
        | refine W_blk ?_
        | refine W_exit (by rfl) ?_
        | refine W_region (by rfl) ?_
        | refine W_opsnil ?_
        | refine W_pure TOk (by rfl) (by first | trivial | (simp only [okI, and_true, true_and, and_self] <;> omega)) ?_
        | refine W_on (by rfl) (by rfl) (by rfl) ?_
        | refine W_off (by rfl) (by rfl) (by rfl) (by rfl) (by rfl) ?_
        | refine W_offU (by rfl) (by rfl) (by rfl) (by rfl) ?_
        | refine W_cond_t (by rfl) ?_
        | refine W_cond_f (by rfl) ?_
      refine W_call _ (by rfl) Try.call139 (by rfl) (fun w1 hw => pslice_c w1 tb x (beg x k) (siz x k) (h3.below hw.below) hs) ?_
      rintro _ _ ⟨A5, c5, rfl, rfl⟩
      dsimp only [List.cons_append, List.nil_append]
      repeat first
        | refine W_seq ?_
        | refine W_skip ?_
        | refine W_block ?_
        | refine W_blk ?_
        | refine W_exit (by rfl) ?_
        | refine W_region (by rfl) ?_
        | refine W_opsnil ?_
        | refine W_pure TOk (by rfl) (by first | trivial | (simp only [okI, and_true, true_and, and_self] <;> omega)) ?_
        | refine W_on (by rfl) (by rfl) (by rfl) ?_
        | refine W_off (by rfl) (by rfl) (by rfl) (by rfl) (by rfl) ?_
        | refine W_offU (by rfl) (by rfl) (by rfl) (by rfl) ?_
        | refine W_cond_t (by rfl) ?_
        | refine W_cond_f (by rfl) ?_
      have e : linS x k = ((x.drop (beg x k)).take (siz x k), 0) := by unfold linS; rw [if_pos (by omega)]; rfl
      have hl : ((x.drop (beg x k)).take (siz x k)).length = siz x k := cut_eq hs
      refine W_retF (vs := [_, _]) ⟨rfl, rfl, trivial⟩ (Ent.refl _) ⟨A5, c5, ?_, ?_⟩
      · rw [e]; dsimp only; rw [hl]; rfl
      · rw [e]; dsimp only; rw [hl]
end Go.Proofs.Ytdfibmbedjpcgaa
