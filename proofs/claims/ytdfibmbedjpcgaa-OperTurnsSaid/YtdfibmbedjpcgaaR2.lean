/- Contracts of functions over lines that only read: plain, how many runes, few. -/
import Derived.Test.YtdfibmbedjpcgaaR1
import Derived.Test.YtdfibmbedjpcgaaEngQ
import Derived.Test.YtdfibmbedjpcgaaLs
set_option linter.unusedVariables false
set_option linter.unusedSimpArgs false
namespace Go.Proofs.Ytdfibmbedjpcgaa
open Go Go.RowKit Eng Ls
attribute [local irreducible] Eng.W

theorem row_len_le (xss : List (List Int)) {i : Int} (h0 : 0 ≤ i) (h1 : i < xss.length) : (rw_ xss i).length ≤ tot xss := by
  have h := tot_snoc (rw_get h0 h1)
  have := tot_take xss (i.toNat + 1)
  omega

set_option maxHeartbeats 400000 in
theorem RRunes_c (w : World) (A : Option Addr) (c : Nat) (xss : List (List Int)) (hl : RowsAt w A xss) (hb : xss.length + tot xss ≤ 1152921504606846976) :
    Val Try.prog 103 [.slice A xss.length c] w (.int .i64 (runes xss : Nat)) := by
  refine enterF Try.func103 rfl Try.ntmps103 rfl rfl ?_
  repeat first
    | refine W_seq ?_
    | refine W_skip ?_
    | refine W_block ?_
    | refine W_blk ?_
    | refine W_exit (by rfl) ?_
    | refine W_region (by rfl) ?_
    | refine W_opsnil ?_
    | refine W_pure TOk (by rfl) (by first | trivial | (simp only [okI, and_true, true_and, and_self] <;> omega)) ?_
    | refine W_on (by rfl) (by rfl) (by rfl) ?_
    | refine W_off (by rfl) (by rfl) (by rfl) (by rfl) (by rfl) ?_
    | refine W_offU (by rfl) (by rfl) (by rfl) (by rfl) ?_
    | refine W_cond_t (by rfl) ?_
    | refine W_cond_f (by rfl) ?_
  refine W_loop (ι := Nat) (fun i => [(0, .slice A xss.length c), (3, .int .i64 ((xss.length : Int) - 1 + (tot (xss.take i) : Nat))), (4, .int .i64 (i : Nat))]) (fun _ => []) (fun i => i ≤ xss.length) (fun i => xss.length - i) 0
    (by omega) ⟨rfl, by simp [tot]; rfl, rfl, trivial⟩ (Ent.refl _) ?_
  intro i hi
  repeat first
    | refine W_seq ?_
    | refine W_skip ?_
    | refine W_block ?_
    | refine W_blk ?_
    | refine W_exit (by rfl) ?_
    | refine W_region (by rfl) ?_
    | refine W_opsnil ?_
    | refine W_pure TOk (by rfl) (by first | trivial | (simp only [okI, and_true, true_and, and_self] <;> omega)) ?_
    | refine W_on (by rfl) (by rfl) (by rfl) ?_
    | refine W_off (by rfl) (by rfl) (by rfl) (by rfl) (by rfl) ?_
    | refine W_offU (by rfl) (by rfl) (by rfl) (by rfl) ?_
    | refine W_cond_t (by rfl) ?_
    | refine W_cond_f (by rfl) ?_
  refine W_cond_d (by rfl) (fun hlt => ?_) (fun hge => ?_)
  · obtain ⟨B, cB, hcB, hB, hvs⟩ := hl.row (i := (i : Int)) (by omega) hlt
    have htk := tot_take xss i
    have hrl := row_len_le xss (i := (i : Int)) (by omega) hlt
    repeat first
      | refine W_seq ?_
      | refine W_skip ?_
      | refine W_block ?_
      | refine W_blk ?_
      | refine W_exit (by rfl) ?_
      | refine W_region (by rfl) ?_
      | refine W_opsnil ?_
      | refine W_pure TOk (by rfl) (by first | trivial | (simp only [okI, and_true, true_and, and_self] <;> omega)) ?_
      | refine W_on (by rfl) (by rfl) (by rfl) ?_
      | refine W_off (by rfl) (by rfl) (by rfl) (by rfl) (by rfl) ?_
      | refine W_offU (by rfl) (by rfl) (by rfl) (by rfl) ?_
      | refine W_cond_t (by rfl) ?_
      | refine W_cond_f (by rfl) ?_
    refine W_index TOk (by rfl) (by rfl) (by rfl) (by first | exact es48 | exact es22 | exact es136 | exact es150 | exact es223 | exact es29 | exact es132 | exact es207) (by omega) (by omega) (fun w1 hw => (hl.below hw.below).isSome (by omega)) ?_
    refine W_load TOk (by rfl) (by rfl) (by rfl) (fun w1 hw => cells_elem1 hvs hw.below) ?_
    repeat first
      | refine W_seq ?_
      | refine W_skip ?_
      | refine W_block ?_
      | refine W_blk ?_
      | refine W_exit (by rfl) ?_
      | refine W_region (by rfl) ?_
      | refine W_opsnil ?_
      | refine W_pure TOk (by rfl) (by first | trivial | (simp only [okI, and_true, true_and, and_self] <;> omega)) ?_
      | refine W_on (by rfl) (by rfl) (by rfl) ?_
      | refine W_off (by rfl) (by rfl) (by rfl) (by rfl) (by rfl) ?_
      | refine W_offU (by rfl) (by rfl) (by rfl) (by rfl) ?_
      | refine W_cond_t (by rfl) ?_
      | refine W_cond_f (by rfl) ?_
    have hs := tot_snoc (rw_get (i := (i : Int)) (by omega) hlt)
    refine W_inv (i + 1) (by omega) (by omega) ⟨rfl, ?_, rfl, trivial⟩ (Ent.refl _)
    have : ((i : Int).toNat + 1) = i + 1 := by omega
    rw [this] at hs
    rw [hs]
    show some (Value.int _ _) = some (Value.int _ _)
    congr 2
    have : ((i : Int)).toNat = i := by omega
    rw [this]
    omega
  · repeat first
      | refine W_seq ?_
      | refine W_skip ?_
      | refine W_block ?_
      | refine W_blk ?_
      | refine W_exit (by rfl) ?_
      | refine W_region (by rfl) ?_
      | refine W_opsnil ?_
      | refine W_pure TOk (by rfl) (by first | trivial | (simp only [okI, and_true, true_and, and_self] <;> omega)) ?_
      | refine W_on (by rfl) (by rfl) (by rfl) ?_
      | refine W_off (by rfl) (by rfl) (by rfl) (by rfl) (by rfl) ?_
      | refine W_offU (by rfl) (by rfl) (by rfl) (by rfl) ?_
      | refine W_cond_t (by rfl) ?_
      | refine W_cond_f (by rfl) ?_
    refine W_retF (vs := [_]) ⟨rfl, trivial⟩ (Ent.refl _) ⟨?_, rfl⟩
    have e : i = xss.length := by omega
    have hz : xss.length = 0 → tot xss = 0 := fun h => by rw [List.eq_nil_of_length_eq_zero h]; rfl
    rw [e, List.take_length]
    show Value.int _ _ = Value.int _ _
    congr 1
    unfold maxI runes
    split <;> omega

theorem noNl_take_succ {xs : List Int} {k : Nat} (h : k < xs.length) (hp : noNl (xs.take k) = true) (hn : rd xs k ≠ 10) : noNl (xs.take (k + 1)) = true := by
  have hg := rd_get (xs := xs) (i := (k : Int)) (by omega) (by omega)
  rw [show ((k : Int)).toNat = k by omega] at hg
  rw [take_snoc hg]
  unfold noNl at *
  simp [hp, hn]
theorem noNl_false {xs : List Int} {k : Nat} (h : k < xs.length) (hn : rd xs k = 10) : noNl xs = false := by
  have hg := rd_get (xs := xs) (i := (k : Int)) (by omega) (by omega)
  rw [show ((k : Int)).toNat = k by omega, hn] at hg
  unfold noNl
  rw [List.all_eq_false]
  exact ⟨10, List.mem_of_getElem? hg, by simp⟩
theorem plain_false {xss : List (List Int)} {i : Nat} (h : i < xss.length) (hn : noNl (rw_ xss i) = false) : plainL xss = false := by
  have hg := rw_get (xss := xss) (i := (i : Int)) (by omega) (by omega)
  unfold plainL
  rw [List.all_eq_false]
  exact ⟨_, List.mem_of_getElem? hg, by simp [hn]⟩
theorem plain_take_succ {xss : List (List Int)} {k : Nat} (h : k < xss.length) (hp : plainL (xss.take k) = true) (hn : noNl (rw_ xss k) = true) : plainL (xss.take (k + 1)) = true := by
  have hg := rw_get (xss := xss) (i := (k : Int)) (by omega) (by omega)
  rw [show ((k : Int)).toNat = k by omega] at hg
  rw [take_snoc hg]
  unfold plainL at *
  simp [hp, hn]

set_option maxHeartbeats 1000000 in
/-- 'plain' of the two references: the same text twice. -/
theorem plain_c (w : World) (A : Option Addr) (c : Nat) (xss : List (List Int)) (hl : RowsAt w A xss) (hb : xss.length + tot xss ≤ 1152921504606846976) :
    Val Try.prog 107 [.slice A xss.length c] w (.bool (plainL xss)) := by
  refine enterF Try.func107 rfl Try.ntmps107 rfl rfl ?_
  repeat first
    | refine W_seq ?_
    | refine W_skip ?_
    | refine W_block ?_
    | refine W_blk ?_
    | refine W_exit (by rfl) ?_
    | refine W_region (by rfl) ?_
    | refine W_opsnil ?_
    | refine W_pure TOk (by rfl) (by first | trivial | (simp only [okI, and_true, true_and, and_self] <;> omega)) ?_
    | refine W_on (by rfl) (by rfl) (by rfl) ?_
    | refine W_off (by rfl) (by rfl) (by rfl) (by rfl) (by rfl) ?_
    | refine W_offU (by rfl) (by rfl) (by rfl) (by rfl) ?_
    | refine W_cond_t (by rfl) ?_
    | refine W_cond_f (by rfl) ?_
  refine W_loop (ι := Nat) (fun i => [(0, .slice A xss.length c), (3, .int .i64 (i : Nat))]) (fun _ => []) (fun i => i ≤ xss.length ∧ plainL (xss.take i) = true) (fun i => xss.length - i) 0
    ⟨by omega, rfl⟩ ⟨rfl, rfl, trivial⟩ (Ent.refl _) ?_
  rintro i ⟨hi, hp⟩
  repeat first
    | refine W_seq ?_
    | refine W_skip ?_
    | refine W_block ?_
    | refine W_blk ?_
    | refine W_exit (by rfl) ?_
    | refine W_region (by rfl) ?_
    | refine W_opsnil ?_
    | refine W_pure TOk (by rfl) (by first | trivial | (simp only [okI, and_true, true_and, and_self] <;> omega)) ?_
    | refine W_on (by rfl) (by rfl) (by rfl) ?_
    | refine W_off (by rfl) (by rfl) (by rfl) (by rfl) (by rfl) ?_
    | refine W_offU (by rfl) (by rfl) (by rfl) (by rfl) ?_
    | refine W_cond_t (by rfl) ?_
    | refine W_cond_f (by rfl) ?_
  refine W_cond_d (by rfl) (fun hlt => ?_) (fun hge => ?_)
  · obtain ⟨B, cB, hcB, hB, hvs⟩ := hl.row (i := (i : Int)) (by omega) hlt
    have hrl := row_len_le xss (i := (i : Int)) (by omega) hlt
    repeat first
      | refine W_seq ?_
      | refine W_skip ?_
      | refine W_block ?_
      | refine W_blk ?_
      | refine W_exit (by rfl) ?_
      | refine W_region (by rfl) ?_
      | refine W_opsnil ?_
      | refine W_pure TOk (by rfl) (by first | trivial | (simp only [okI, and_true, true_and, and_self] <;> omega)) ?_
      | refine W_on (by rfl) (by rfl) (by rfl) ?_
      | refine W_off (by rfl) (by rfl) (by rfl) (by rfl) (by rfl) ?_
      | refine W_offU (by rfl) (by rfl) (by rfl) (by rfl) ?_
      | refine W_cond_t (by rfl) ?_
      | refine W_cond_f (by rfl) ?_
    refine W_loop (ι := Nat) (fun j => [(0, .slice A xss.length c), (3, .int .i64 (i : Nat)), (4, .int .i64 (j : Nat))]) (fun _ => []) (fun j => j ≤ (rw_ xss i).length ∧ noNl ((rw_ xss i).take j) = true) (fun j => (rw_ xss i).length - j) 0
      ⟨by omega, rfl⟩ ⟨rfl, rfl, rfl, trivial⟩ (Ent.refl _) ?_
    rintro j ⟨hj, hq⟩
    repeat first
      | refine W_seq ?_
      | refine W_skip ?_
      | refine W_block ?_
      | refine W_blk ?_
      | refine W_exit (by rfl) ?_
      | refine W_region (by rfl) ?_
      | refine W_opsnil ?_
      | refine W_pure TOk (by rfl) (by first | trivial | (simp only [okI, and_true, true_and, and_self] <;> omega)) ?_
      | refine W_on (by rfl) (by rfl) (by rfl) ?_
      | refine W_off (by rfl) (by rfl) (by rfl) (by rfl) (by rfl) ?_
      | refine W_offU (by rfl) (by rfl) (by rfl) (by rfl) ?_
      | refine W_cond_t (by rfl) ?_
      | refine W_cond_f (by rfl) ?_
    refine W_index TOk (by rfl) (by rfl) (by rfl) (by first | exact es48 | exact es22 | exact es136 | exact es150 | exact es223 | exact es29 | exact es132 | exact es207) (by omega) (by omega) (fun w1 hw => (hl.below hw.below).isSome (by omega)) ?_
    refine W_load TOk (by rfl) (by rfl) (by rfl) (fun w1 hw => cells_elem1 hvs hw.below) ?_
    repeat first
      | refine W_seq ?_
      | refine W_skip ?_
      | refine W_block ?_
      | refine W_blk ?_
      | refine W_exit (by rfl) ?_
      | refine W_region (by rfl) ?_
      | refine W_opsnil ?_
      | refine W_pure TOk (by rfl) (by first | trivial | (simp only [okI, and_true, true_and, and_self] <;> omega)) ?_
      | refine W_on (by rfl) (by rfl) (by rfl) ?_
      | refine W_off (by rfl) (by rfl) (by rfl) (by rfl) (by rfl) ?_
      | refine W_offU (by rfl) (by rfl) (by rfl) (by rfl) ?_
      | refine W_cond_t (by rfl) ?_
      | refine W_cond_f (by rfl) ?_
    refine W_cond_d (by rfl) (fun hjlt => ?_) (fun hjge => ?_)
    · repeat first
        | refine W_seq ?_
        | refine W_skip ?_
        | refine W_block ?_
        | refine W_blk ?_
        | refine W_exit (by rfl) ?_
        | refine W_region (by rfl) ?_
        | refine W_opsnil ?_
        | refine W_pure TOk (by rfl) (by first | trivial | (simp only [okI, and_true, true_and, and_self] <;> omega)) ?_
        | refine W_on (by rfl) (by rfl) (by rfl) ?_
        | refine W_off (by rfl) (by rfl) (by rfl) (by rfl) (by rfl) ?_
        | refine W_offU (by rfl) (by rfl) (by rfl) (by rfl) ?_
        | refine W_cond_t (by rfl) ?_
        | refine W_cond_f (by rfl) ?_
      refine W_index TOk (by rfl) (by rfl) (by rfl) (by first | exact es48 | exact es22 | exact es136 | exact es150 | exact es223 | exact es29 | exact es132 | exact es207) (by omega) (by omega) (fun w1 hw => (hl.below hw.below).isSome (by omega)) ?_
      refine W_load TOk (by rfl) (by rfl) (by rfl) (fun w1 hw => cells_elem1 hvs hw.below) ?_
      repeat first
        | refine W_seq ?_
        | refine W_skip ?_
        | refine W_block ?_
        | refine W_blk ?_
        | refine W_exit (by rfl) ?_
        | refine W_region (by rfl) ?_
        | refine W_opsnil ?_
        | refine W_pure TOk (by rfl) (by first | trivial | (simp only [okI, and_true, true_and, and_self] <;> omega)) ?_
        | refine W_on (by rfl) (by rfl) (by rfl) ?_
        | refine W_off (by rfl) (by rfl) (by rfl) (by rfl) (by rfl) ?_
        | refine W_offU (by rfl) (by rfl) (by rfl) (by rfl) ?_
        | refine W_cond_t (by rfl) ?_
        | refine W_cond_f (by rfl) ?_
      refine W_index TOk (by rfl) (by rfl) (by rfl) (by first | exact es48 | exact es22 | exact es136 | exact es150 | exact es223 | exact es29 | exact es132 | exact es207) (by omega) (by omega) (fun w1 hw => (hB.below hw.below).isSome (by rw [i32s_length]; omega)) ?_
      refine W_load TOk (by rfl) (by rfl) (by rfl) (fun w1 hw => (hB.below hw.below).elem1 (i32s_get (by omega) hjlt)) ?_
      repeat first
        | refine W_seq ?_
        | refine W_skip ?_
        | refine W_block ?_
        | refine W_blk ?_
        | refine W_exit (by rfl) ?_
        | refine W_region (by rfl) ?_
        | refine W_opsnil ?_
        | refine W_pure TOk (by rfl) (by first | trivial | (simp only [okI, and_true, true_and, and_self] <;> omega)) ?_
        | refine W_on (by rfl) (by rfl) (by rfl) ?_
        | refine W_off (by rfl) (by rfl) (by rfl) (by rfl) (by rfl) ?_
        | refine W_offU (by rfl) (by rfl) (by rfl) (by rfl) ?_
        | refine W_cond_t (by rfl) ?_
        | refine W_cond_f (by rfl) ?_
      refine W_cond_d (by rfl) (fun he => ?_) (fun hne => ?_)
      · repeat first
          | refine W_seq ?_
          | refine W_skip ?_
          | refine W_block ?_
          | refine W_blk ?_
          | refine W_exit (by rfl) ?_
          | refine W_region (by rfl) ?_
          | refine W_opsnil ?_
          | refine W_pure TOk (by rfl) (by first | trivial | (simp only [okI, and_true, true_and, and_self] <;> omega)) ?_
          | refine W_on (by rfl) (by rfl) (by rfl) ?_
          | refine W_off (by rfl) (by rfl) (by rfl) (by rfl) (by rfl) ?_
          | refine W_offU (by rfl) (by rfl) (by rfl) (by rfl) ?_
          | refine W_cond_t (by rfl) ?_
          | refine W_cond_f (by rfl) ?_
        refine W_retF (vs := [_]) ⟨rfl, trivial⟩ (Ent.refl _) ⟨?_, rfl⟩
        rw [plain_false (i := i) (by omega) (noNl_false (k := j) (by omega) he)]; rfl
      · repeat first
          | refine W_seq ?_
          | refine W_skip ?_
          | refine W_block ?_
          | refine W_blk ?_
          | refine W_exit (by rfl) ?_
          | refine W_region (by rfl) ?_
          | refine W_opsnil ?_
          | refine W_pure TOk (by rfl) (by first | trivial | (simp only [okI, and_true, true_and, and_self] <;> omega)) ?_
          | refine W_on (by rfl) (by rfl) (by rfl) ?_
          | refine W_off (by rfl) (by rfl) (by rfl) (by rfl) (by rfl) ?_
          | refine W_offU (by rfl) (by rfl) (by rfl) (by rfl) ?_
          | refine W_cond_t (by rfl) ?_
          | refine W_cond_f (by rfl) ?_
        exact W_inv (j + 1) ⟨by omega, noNl_take_succ (by omega) hq hne⟩ (by omega) ⟨rfl, rfl, rfl, trivial⟩ (Ent.refl _)
    · repeat first
        | refine W_seq ?_
        | refine W_skip ?_
        | refine W_block ?_
        | refine W_blk ?_
        | refine W_exit (by rfl) ?_
        | refine W_region (by rfl) ?_
        | refine W_opsnil ?_
        | refine W_pure TOk (by rfl) (by first | trivial | (simp only [okI, and_true, true_and, and_self] <;> omega)) ?_
        | refine W_on (by rfl) (by rfl) (by rfl) ?_
        | refine W_off (by rfl) (by rfl) (by rfl) (by rfl) (by rfl) ?_
        | refine W_offU (by rfl) (by rfl) (by rfl) (by rfl) ?_
        | refine W_cond_t (by rfl) ?_
        | refine W_cond_f (by rfl) ?_
      refine W_inv (i + 1) ⟨by omega, plain_take_succ (by omega) hp ?_⟩ (by omega) ⟨rfl, rfl, trivial⟩ (Ent.refl _)
      have e : j = (rw_ xss i).length := by omega
      rw [e, List.take_length] at hq
      exact hq
  · repeat first
      | refine W_seq ?_
      | refine W_skip ?_
      | refine W_block ?_
      | refine W_blk ?_
      | refine W_exit (by rfl) ?_
      | refine W_region (by rfl) ?_
      | refine W_opsnil ?_
      | refine W_pure TOk (by rfl) (by first | trivial | (simp only [okI, and_true, true_and, and_self] <;> omega)) ?_
      | refine W_on (by rfl) (by rfl) (by rfl) ?_
      | refine W_off (by rfl) (by rfl) (by rfl) (by rfl) (by rfl) ?_
      | refine W_offU (by rfl) (by rfl) (by rfl) (by rfl) ?_
      | refine W_cond_t (by rfl) ?_
      | refine W_cond_f (by rfl) ?_
    refine W_retF (vs := [_]) ⟨rfl, trivial⟩ (Ent.refl _) ⟨?_, rfl⟩
    have e : i = xss.length := by omega
    rw [e, List.take_length] at hp
    rw [hp]; rfl

/-- Few lines, and short. -/
def small (xss : List (List Int)) : Bool := decide (xss.length ≤ 300) && decide (runes xss ≤ 3000)
set_option maxHeartbeats 400000 in
theorem Small_c (w : World) (A : Option Addr) (c : Nat) (xss : List (List Int)) (hl : RowsAt w A xss) (hb : xss.length ≤ 300 → tot xss ≤ 36028797018963968) :
    Val Try.prog 37 [.slice A xss.length c] w (.bool (small xss)) := by
  refine enterF Try.func37 rfl Try.ntmps37 rfl rfl ?_
  repeat first
    | refine W_seq ?_
    | refine W_skip ?_
    | refine W_block ?_
    | refine W_blk ?_
    | refine W_exit (by rfl) ?_
    | refine W_region (by rfl) ?_
    | refine W_opsnil ?_
    | refine W_pure TOk (by rfl) (by first | trivial | (simp only [okI, and_true, true_and, and_self] <;> omega)) ?_
    | refine W_on (by rfl) (by rfl) (by rfl) ?_
    | refine W_off (by rfl) (by rfl) (by rfl) (by rfl) (by rfl) ?_
    | refine W_offU (by rfl) (by rfl) (by rfl) (by rfl) ?_
    | refine W_cond_t (by rfl) ?_
    | refine W_cond_f (by rfl) ?_
  refine W_dec 6 (by rfl) (fun h => ?_) (fun h => ?_)
  · have h' : xss.length ≤ 300 := by have := of_decide_eq_true h; omega
    have := hb h'
    repeat first
      | refine W_seq ?_
      | refine W_skip ?_
      | refine W_block ?_
      | refine W_blk ?_
      | refine W_exit (by rfl) ?_
      | refine W_region (by rfl) ?_
      | refine W_opsnil ?_
      | refine W_pure TOk (by rfl) (by first | trivial | (simp only [okI, and_true, true_and, and_self] <;> omega)) ?_
      | refine W_on (by rfl) (by rfl) (by rfl) ?_
      | refine W_off (by rfl) (by rfl) (by rfl) (by rfl) (by rfl) ?_
      | refine W_offU (by rfl) (by rfl) (by rfl) (by rfl) ?_
      | refine W_cond_t (by rfl) ?_
      | refine W_cond_f (by rfl) ?_
    refine W_callV (by rfl) Try.call103 (by rfl) (fun w1 hw => RRunes_c w1 A c xss (hl.below hw.below) (by omega)) ?_
    repeat first
      | refine W_seq ?_
      | refine W_skip ?_
      | refine W_block ?_
      | refine W_blk ?_
      | refine W_exit (by rfl) ?_
      | refine W_region (by rfl) ?_
      | refine W_opsnil ?_
      | refine W_pure TOk (by rfl) (by first | trivial | (simp only [okI, and_true, true_and, and_self] <;> omega)) ?_
      | refine W_on (by rfl) (by rfl) (by rfl) ?_
      | refine W_off (by rfl) (by rfl) (by rfl) (by rfl) (by rfl) ?_
      | refine W_offU (by rfl) (by rfl) (by rfl) (by rfl) ?_
      | refine W_cond_t (by rfl) ?_
      | refine W_cond_f (by rfl) ?_
    refine W_retF (vs := [_]) ⟨rfl, trivial⟩ (Ent.refl _) ⟨?_, rfl⟩
    show Value.bool _ = Value.bool _
    unfold small
    rw [decide_eq_true h', Bool.true_and]
    congr 1
    rw [decide_eq_decide]; omega
  · have h' : ¬ xss.length ≤ 300 := by have := of_decide_eq_false h; omega
    repeat first
      | refine W_seq ?_
      | refine W_skip ?_
      | refine W_block ?_
      | refine W_blk ?_
      | refine W_exit (by rfl) ?_
      | refine W_region (by rfl) ?_
      | refine W_opsnil ?_
      | refine W_pure TOk (by rfl) (by first | trivial | (simp only [okI, and_true, true_and, and_self] <;> omega)) ?_
      | refine W_on (by rfl) (by rfl) (by rfl) ?_
      | refine W_off (by rfl) (by rfl) (by rfl) (by rfl) (by rfl) ?_
      | refine W_offU (by rfl) (by rfl) (by rfl) (by rfl) ?_
      | refine W_cond_t (by rfl) ?_
      | refine W_cond_f (by rfl) ?_
    refine W_retF (vs := [_]) ⟨rfl, trivial⟩ (Ent.refl _) ⟨?_, rfl⟩
    show Value.bool _ = Value.bool _
    unfold small
    rw [decide_eq_false h', Bool.false_and]
end Go.Proofs.Ytdfibmbedjpcgaa
