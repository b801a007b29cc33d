/- Contracts of the text's making: blocks of lengths. -/
import Derived.Test.YtdfibmbedjpcgaaR4
set_option linter.unusedVariables false
set_option linter.unusedSimpArgs false
namespace Go.Proofs.Ytdfibmbedjpcgaa
open Go Go.RowKit Eng Ls
attribute [local irreducible] Eng.W

/-- The cells of a row of blocks. -/
def blkC : List Value → List (List Int) → List Value
  | v :: vs, s :: ss => v :: .int .i64 (bsum s) :: blkC vs ss
  | _, _ => []
theorem blkC_snoc : ∀ {vs : List Value} {ss : List (List Int)} (v : Value) (s : List Int), vs.length = ss.length → blkC (vs ++ [v]) (ss ++ [s]) = blkC vs ss ++ [v, .int .i64 (bsum s)]
  | [], [], v, s, _ => rfl
  | a :: vs, b :: ss, v, s, h => by simp [blkC, blkC_snoc v s (show vs.length = ss.length by simpa using h)]
  | [], _ :: _, _, _, h => by simp at h
  | _ :: _, [], _, _, h => by simp at h
def sizesA (vs : List Value) (ss : List (List Int)) : Ast := seps (List.zipWith intsA vs ss)
/-- A row of blocks, owned. -/
def blocksA (A : Option Addr) (c : Nat) (ss : List (List Int)) : Ast := exA fun (vs : List Value) => andA (vs.length = ss.length) (seps [own 233 2 A ss.length c (blkC vs ss), sizesA vs ss])
def BlocksR (ls : List Int) (v : Value) (M : List Ast) : Prop := ∃ A c ss, v = .slice A ss.length c ∧ ss.flatten = ls ∧ (∀ s ∈ ss, s ≠ []) ∧ M = [blocksA A c ss]
theorem Ent.blocks_in {A : Option Addr} {c : Nat} {vs : List Value} {ss : List (List Int)} (h : vs.length = ss.length) (L : List Ast) : Ent (own 233 2 A ss.length c (blkC vs ss) :: sizesA vs ss :: L) (blocksA A c ss :: L) :=
  (Ent.seps_in [own 233 2 A ss.length c (blkC vs ss), sizesA vs ss] L).trans ((Ent.andA_in h _ _).trans (Ent.exA_in (fun (vs : List Value) => andA (vs.length = ss.length) (seps [own 233 2 A ss.length c (blkC vs ss), sizesA vs ss])) vs L))
theorem Ent.sizes_push {vs : List Value} {ss : List (List Int)} (hl : vs.length = ss.length) (A : Option Addr) (c : Nat) (s : List Int) (H : Ast) (L : List Ast) :
    Ent (own 3 1 A s.length c (i64s s) :: H :: sizesA vs ss :: L) (H :: sizesA (vs ++ [.slice A s.length c]) (ss ++ [s]) :: L) := by
  refine (Ent.intsA_in A c s _).trans ((Ent.swap _ _ _).trans (Ent.cons H ((Ent.swap _ _ _).trans ?_)))
  unfold sizesA
  rw [List.zipWith_append hl]
  exact (Ent.cons _ (Ent.one_seps _ _)).trans (Ent.seps_app _ _ _)

set_option maxHeartbeats 2000000 in
theorem blocked_c (w : World) (A0 : Option Addr) (c0 : Nat) (ls : List Int) (hx : Cells w A0 (i64s ls)) (hb : ls.length ≤ 1073741824) (hc0 : ls.length ≤ c0) (hpos : ∀ x ∈ ls, 0 ≤ x) (hsum : bsum ls ≤ 1099511627776) :
    Fresh Try.prog 176 [.slice A0 ls.length c0] w (BlocksR ls) := by
  refine enterF Try.func176 rfl Try.ntmps176 rfl rfl ?_
  repeat first
    | refine W_seq ?_
    | refine W_skip ?_
    | refine W_block ?_
    | refine W_blk ?_
    | refine W_exit (by rfl) ?_
    | refine W_region (by rfl) ?_
    | refine W_opsnil ?_
    | refine W_pure TOk (by rfl) (by first | trivial | (simp only [okI, and_true, true_and, and_self] <;> omega)) ?_
    | refine W_on (by rfl) (by rfl) (by rfl) ?_
    | refine W_off (by rfl) (by rfl) (by rfl) (by rfl) (by rfl) ?_
    | refine W_offU (by rfl) (by rfl) (by rfl) (by rfl) ?_
    | refine W_cond_t (by rfl) ?_
    | refine W_cond_f (by rfl) ?_
  refine W_loop (ι := Nat × Option Addr × Nat × Option Addr × Nat × List Value × List (List Int)) (fun ⟨k, Al, cl, A, c, vs, ss⟩ => [(0, .slice Al (ls.length - k) cl), (3, .slice A ss.length c)]) (fun ⟨k, Al, cl, A, c, vs, ss⟩ => [own 233 2 A ss.length c (blkC vs ss), sizesA vs ss])
    (fun ⟨k, Al, cl, A, c, vs, ss⟩ => k ≤ ls.length ∧ ls.length - k ≤ cl ∧ Cells w Al (i64s (ls.drop k)) ∧ vs.length = ss.length ∧ ss.flatten = ls.take k ∧ (∀ s ∈ ss, s ≠ []) ∧ ss.length ≤ k) (fun q => ls.length - q.1) (0, A0, c0, none, 0, [], [])
    ⟨by omega, hc0, hx, rfl, rfl, fun s h => by simp at h, by simp⟩ ⟨rfl, rfl, trivial⟩ ((Ent.seps_nil _).trans (Ent.own_zero _ _ _ _)) ?_
  rintro ⟨k, Al, cl, A, c, vs, ss⟩ ⟨hk, hcl, hAl, hvl, hfl, hne, hsl⟩
  dsimp only at hk hcl hAl hvl hfl hne hsl ⊢
  repeat first
    | refine W_seq ?_
    | refine W_skip ?_
    | refine W_block ?_
    | refine W_blk ?_
    | refine W_exit (by rfl) ?_
    | refine W_region (by rfl) ?_
    | refine W_opsnil ?_
    | refine W_pure TOk (by rfl) (by first | trivial | (simp only [okI, and_true, true_and, and_self] <;> omega)) ?_
    | refine W_on (by rfl) (by rfl) (by rfl) ?_
    | refine W_off (by rfl) (by rfl) (by rfl) (by rfl) (by rfl) ?_
    | refine W_offU (by rfl) (by rfl) (by rfl) (by rfl) ?_
    | refine W_cond_t (by rfl) ?_
    | refine W_cond_f (by rfl) ?_
  refine W_cond_d (by rfl) (fun hlt => ?_) (fun hge => ?_)
  · obtain ⟨m, hm, hm0, hm1, hm2⟩ : ∃ m : Nat, minI 64 ((ls.length - k : Nat) : Int) = (m : Int) ∧ 0 < m ∧ m ≤ ls.length - k ∧ m ≤ 64 := by
      unfold minI
      split
      · exact ⟨ls.length - k, rfl, by omega, by omega, by omega⟩
      · exact ⟨64, rfl, by omega, by omega, by omega⟩
    have hsl2 : ((ls.drop k).take m).length = m := by rw [List.length_take, List.length_drop]; omega
    repeat first
      | refine W_seq ?_
      | refine W_skip ?_
      | refine W_block ?_
      | refine W_blk ?_
      | refine W_exit (by rfl) ?_
      | refine W_region (by rfl) ?_
      | refine W_opsnil ?_
      | refine W_pure TOk (by rfl) (by first | trivial | (simp only [okI, and_true, true_and, and_self] <;> omega)) ?_
      | refine W_on (by rfl) (by rfl) (by rfl) ?_
      | refine W_off (by rfl) (by rfl) (by rfl) (by rfl) (by rfl) ?_
      | refine W_offU (by rfl) (by rfl) (by rfl) (by rfl) ?_
      | refine W_cond_t (by rfl) ?_
      | refine W_cond_f (by rfl) ?_
    rw [hm]
    repeat first
      | refine W_seq ?_
      | refine W_skip ?_
      | refine W_block ?_
      | refine W_blk ?_
      | refine W_exit (by rfl) ?_
      | refine W_region (by rfl) ?_
      | refine W_opsnil ?_
      | refine W_pure TOk (by rfl) (by first | trivial | (simp only [okI, and_true, true_and, and_self] <;> omega)) ?_
      | refine W_on (by rfl) (by rfl) (by rfl) ?_
      | refine W_off (by rfl) (by rfl) (by rfl) (by rfl) (by rfl) ?_
      | refine W_offU (by rfl) (by rfl) (by rfl) (by rfl) ?_
      | refine W_cond_t (by rfl) ?_
      | refine W_cond_f (by rfl) ?_
    have hcut : ∀ w1, Below w.heap.size w w1 → Cells w1 (cutA Al 0 cl 1) (i64s ((ls.drop k).take m)) := fun w1 hb => (hAl.below hb).cut64 0 m cl (by omega)
    refine W_append_zero TOk (by rfl) (by rfl) (by rfl) sl136 (fun w1 hw => hcut w1 hw.below) (by rw [i64s_length, hsl2]; omega) (by unfold maxLen; omega) (by omega) (fun A1 c1 => ?_)
    simp only [Int.toNat_natCast, Int.toNat_zero, Nat.sub_zero]
    repeat first
      | refine W_seq ?_
      | refine W_skip ?_
      | refine W_block ?_
      | refine W_blk ?_
      | refine W_exit (by rfl) ?_
      | refine W_region (by rfl) ?_
      | refine W_opsnil ?_
      | refine W_pure TOk (by rfl) (by first | trivial | (simp only [okI, and_true, true_and, and_self] <;> omega)) ?_
      | refine W_on (by rfl) (by rfl) (by rfl) ?_
      | refine W_off (by rfl) (by rfl) (by rfl) (by rfl) (by rfl) ?_
      | refine W_offU (by rfl) (by rfl) (by rfl) (by rfl) ?_
      | refine W_cond_t (by rfl) ?_
      | refine W_cond_f (by rfl) ?_
    refine W_alloc (cs := [_, _]) TOk (by rfl) (by rfl) (fun b => ?_)
    repeat first
      | refine W_seq ?_
      | refine W_skip ?_
      | refine W_block ?_
      | refine W_blk ?_
      | refine W_exit (by rfl) ?_
      | refine W_region (by rfl) ?_
      | refine W_opsnil ?_
      | refine W_pure TOk (by rfl) (by first | trivial | (simp only [okI, and_true, true_and, and_self] <;> omega)) ?_
      | refine W_on (by rfl) (by rfl) (by rfl) ?_
      | refine W_off (by rfl) (by rfl) (by rfl) (by rfl) (by rfl) ?_
      | refine W_offU (by rfl) (by rfl) (by rfl) (by rfl) ?_
      | refine W_cond_t (by rfl) ?_
      | refine W_cond_f (by rfl) ?_
      | refine W_load_box 0 TOk (by rfl) (by rfl) (by rfl) (by rfl) (by rfl) ?_
      | refine W_load_box 1 TOk (by rfl) (by rfl) (by rfl) (by rfl) (by rfl) ?_
      | refine W_load_boxN 0 TOk (by rfl) (by rfl) (by rfl) (by rfl) (by rfl) ?_
      | refine W_load_boxN 1 TOk (by rfl) (by rfl) (by rfl) (by rfl) (by rfl) ?_
      | (refine W_store_box 0 TOk (by rfl) (by rfl) (by rfl) (by rfl) (by rfl) (by rfl) ?_; dsimp only [setL, putL, vcells])
      | (refine W_store_box 1 TOk (by rfl) (by rfl) (by rfl) (by rfl) (by rfl) (by rfl) ?_; dsimp only [setL, putL, vcells])
    refine W_loop (ι := Nat) (fun j => [(20, .slice A1 m c1), (21, .int .i64 (m : Nat)), (22, .int .i64 (j : Nat)), (5, .pointer (some ⟨b, 0, none⟩)), (0, .slice Al (ls.length - k) cl), (3, .slice A ss.length c), (4, .int .i64 (m : Nat))])
      (fun j => [box b 233 [.slice A1 m c1, .int .i64 (bsum (((ls.drop k).take m).take j))], own 3 1 A1 m c1 (i64s ((ls.drop k).take m)), own 233 2 A ss.length c (blkC vs ss), sizesA vs ss])
      (fun j => j ≤ m) (fun j => m - j) 0 (by omega) ⟨rfl, rfl, rfl, rfl, rfl, rfl, rfl, trivial⟩ (Ent.refl _) ?_
    intro j hj
    have hp2 : ∀ x ∈ (ls.drop k).take m, 0 ≤ x := fun x hx => hpos x (List.mem_of_mem_drop (List.mem_of_mem_take hx))
    have hbs : 0 ≤ bsum ((ls.drop k).take m) ∧ bsum ((ls.drop k).take m) ≤ 1099511627776 := by
      have h1 := bsum_take_le (a := ls.drop k) (fun x hx => hpos x (List.mem_of_mem_drop hx)) m
      have h2 := bsum_append (ls.take k) (ls.drop k)
      rw [List.take_append_drop] at h2
      have h3 := (bsum_take_le hpos k).1
      omega
    repeat first
      | refine W_seq ?_
      | refine W_skip ?_
      | refine W_block ?_
      | refine W_blk ?_
      | refine W_exit (by rfl) ?_
      | refine W_region (by rfl) ?_
      | refine W_opsnil ?_
      | refine W_pure TOk (by rfl) (by first | trivial | (simp only [okI, and_true, true_and, and_self] <;> omega)) ?_
      | refine W_on (by rfl) (by rfl) (by rfl) ?_
      | refine W_off (by rfl) (by rfl) (by rfl) (by rfl) (by rfl) ?_
      | refine W_offU (by rfl) (by rfl) (by rfl) (by rfl) ?_
      | refine W_cond_t (by rfl) ?_
      | refine W_cond_f (by rfl) ?_
    refine W_cond_d (by rfl) (fun hjl => ?_) (fun hjg => ?_)
    · have hbj := bsum_take_le hp2 j
      have hbj1 := bsum_take_le hp2 (j + 1)
      have htj := take_snoc_rd (xs := (ls.drop k).take m) (k := j) (by omega)
      have hrdp : 0 ≤ rd ((ls.drop k).take m) j := by
        refine hp2 _ ?_
        have := rd_get (xs := (ls.drop k).take m) (i := (j : Int)) (by omega) (by omega)
        exact List.mem_of_getElem? this
      have hbe := bsum_snoc (((ls.drop k).take m).take j) (rd ((ls.drop k).take m) j)
      rw [← htj] at hbe
      repeat first
        | refine W_seq ?_
        | refine W_skip ?_
        | refine W_block ?_
        | refine W_blk ?_
        | refine W_exit (by rfl) ?_
        | refine W_region (by rfl) ?_
        | refine W_opsnil ?_
        | refine W_pure TOk (by rfl) (by first | trivial | (simp only [okI, and_true, true_and, and_self] <;> omega)) ?_
        | refine W_on (by rfl) (by rfl) (by rfl) ?_
        | refine W_off (by rfl) (by rfl) (by rfl) (by rfl) (by rfl) ?_
        | refine W_offU (by rfl) (by rfl) (by rfl) (by rfl) ?_
        | refine W_cond_t (by rfl) ?_
        | refine W_cond_f (by rfl) ?_
      refine W_index TOk (by rfl) (by rfl) (by rfl) (by first | exact es48 | exact es22 | exact es136 | exact es150 | exact es223 | exact es29 | exact es132 | exact es207) (by omega) (by omega) (fun w1 hw => (hw.hp.cells 1 rfl).isSome (by rw [i64s_length]; omega)) ?_
      refine W_load TOk (by rfl) (by rfl) (by rfl) (fun w1 hw => (hw.hp.cells 1 rfl).elem1 (i64s_get (by omega) (by omega))) ?_
      repeat first
        | refine W_seq ?_
        | refine W_skip ?_
        | refine W_block ?_
        | refine W_blk ?_
        | refine W_exit (by rfl) ?_
        | refine W_region (by rfl) ?_
        | refine W_opsnil ?_
        | refine W_pure TOk (by rfl) (by first | trivial | (simp only [okI, and_true, true_and, and_self] <;> omega)) ?_
        | refine W_on (by rfl) (by rfl) (by rfl) ?_
        | refine W_off (by rfl) (by rfl) (by rfl) (by rfl) (by rfl) ?_
        | refine W_offU (by rfl) (by rfl) (by rfl) (by rfl) ?_
        | refine W_cond_t (by rfl) ?_
        | refine W_cond_f (by rfl) ?_
        | refine W_load_box 0 TOk (by rfl) (by rfl) (by rfl) (by rfl) (by rfl) ?_
        | refine W_load_box 1 TOk (by rfl) (by rfl) (by rfl) (by rfl) (by rfl) ?_
        | refine W_load_boxN 0 TOk (by rfl) (by rfl) (by rfl) (by rfl) (by rfl) ?_
        | refine W_load_boxN 1 TOk (by rfl) (by rfl) (by rfl) (by rfl) (by rfl) ?_
        | (refine W_store_box 0 TOk (by rfl) (by rfl) (by rfl) (by rfl) (by rfl) (by rfl) ?_; dsimp only [setL, putL, vcells])
        | (refine W_store_box 1 TOk (by rfl) (by rfl) (by rfl) (by rfl) (by rfl) (by rfl) ?_; dsimp only [setL, putL, vcells])
      refine W_inv (j + 1) (by omega) (by omega) ⟨rfl, rfl, rfl, rfl, rfl, rfl, rfl, trivial⟩ (Ent.of_eq ?_)
      rw [hbe]
    · have ej : j = m := by omega
      subst ej
      rw [List.take_of_length_le (Nat.le_of_eq hsl2)]
      repeat first
        | refine W_seq ?_
        | refine W_skip ?_
        | refine W_block ?_
        | refine W_blk ?_
        | refine W_exit (by rfl) ?_
        | refine W_region (by rfl) ?_
        | refine W_opsnil ?_
        | refine W_pure TOk (by rfl) (by first | trivial | (simp only [okI, and_true, true_and, and_self] <;> omega)) ?_
        | refine W_on (by rfl) (by rfl) (by rfl) ?_
        | refine W_off (by rfl) (by rfl) (by rfl) (by rfl) (by rfl) ?_
        | refine W_offU (by rfl) (by rfl) (by rfl) (by rfl) ?_
        | refine W_cond_t (by rfl) ?_
        | refine W_cond_f (by rfl) ?_
        | refine W_load_box 0 TOk (by rfl) (by rfl) (by rfl) (by rfl) (by rfl) ?_
        | refine W_load_box 1 TOk (by rfl) (by rfl) (by rfl) (by rfl) (by rfl) ?_
        | refine W_load_boxN 0 TOk (by rfl) (by rfl) (by rfl) (by rfl) (by rfl) ?_
        | refine W_load_boxN 1 TOk (by rfl) (by rfl) (by rfl) (by rfl) (by rfl) ?_
        | (refine W_store_box 0 TOk (by rfl) (by rfl) (by rfl) (by rfl) (by rfl) (by rfl) ?_; dsimp only [setL, putL, vcells])
        | (refine W_store_box 1 TOk (by rfl) (by rfl) (by rfl) (by rfl) (by rfl) (by rfl) ?_; dsimp only [setL, putL, vcells])
      refine W_lit TOk (cs := [_, _]) (by rfl) sl150 (by rfl) (by rfl) (by rfl) (by rfl) (fun g1 => ?_)
      refine W_append_own 3 TOk (by rfl) (by rfl) (by rfl) sl150 (by rfl) (fun w1 hw => hw.hp.cells 0 rfl) (by rfl) (by simp [Value.oneCell']) (by unfold maxLen; omega) (by omega) (fun A3 c3 => ?_); dsimp only [setL]
      repeat first
        | refine W_seq ?_
        | refine W_skip ?_
        | refine W_block ?_
        | refine W_blk ?_
        | refine W_exit (by rfl) ?_
        | refine W_region (by rfl) ?_
        | refine W_opsnil ?_
        | refine W_pure TOk (by rfl) (by first | trivial | (simp only [okI, and_true, true_and, and_self] <;> omega)) ?_
        | refine W_on (by rfl) (by rfl) (by rfl) ?_
        | refine W_off (by rfl) (by rfl) (by rfl) (by rfl) (by rfl) ?_
        | refine W_offU (by rfl) (by rfl) (by rfl) (by rfl) ?_
        | refine W_cond_t (by rfl) ?_
        | refine W_cond_f (by rfl) ?_
        | refine W_load_box 0 TOk (by rfl) (by rfl) (by rfl) (by rfl) (by rfl) ?_
        | refine W_load_box 1 TOk (by rfl) (by rfl) (by rfl) (by rfl) (by rfl) ?_
        | refine W_load_boxN 0 TOk (by rfl) (by rfl) (by rfl) (by rfl) (by rfl) ?_
        | refine W_load_boxN 1 TOk (by rfl) (by rfl) (by rfl) (by rfl) (by rfl) ?_
        | (refine W_store_box 0 TOk (by rfl) (by rfl) (by rfl) (by rfl) (by rfl) (by rfl) ?_; dsimp only [setL, putL, vcells])
        | (refine W_store_box 1 TOk (by rfl) (by rfl) (by rfl) (by rfl) (by rfl) (by rfl) ?_; dsimp only [setL, putL, vcells])
      have hrow : ((ls.drop k).take j).length = j := hsl2
      have hflat : (ss ++ [(ls.drop k).take j]).flatten = ls.take (k + j) := by
        rw [List.flatten_append, hfl]; simp [List.take_add]
      refine W_inv (k + j, cutA Al j cl 1, cl - j, A3, c3, vs ++ [.slice A1 j c1], ss ++ [(ls.drop k).take j]) ⟨by dsimp only; omega, by dsimp only; omega, ?_, by simp [hvl], hflat, ?_, by simp; omega⟩ (by dsimp only; omega) ⟨?_, ?_, trivial⟩ ?_
      · have := hAl.cut64 j (ls.length - k) cl (by omega)
        rwa [List.drop_drop, List.take_of_length_le (by rw [List.length_drop]; omega)] at this
      · intro s hs
        rcases List.mem_append.1 hs with h | h
        · exact hne s h
        · have : s = (ls.drop k).take j := by simpa using h
          subst this
          intro e0
          rw [e0] at hrow
          simp at hrow
          omega
      · dsimp only
        rw [← Nat.sub_sub]; rfl
      · dsimp only
        rw [List.length_append]; rfl
      · dsimp only
        rw [List.length_append, blkC_snoc _ _ hvl]
        have h5 := Ent.sizes_push hvl A1 c1 ((ls.drop k).take j) (own 233 2 A3 (ss.length + 1) c3 (blkC vs ss ++ [.slice A1 j c1, .int .i64 (bsum ((ls.drop k).take j))])) []
        rw [hrow] at h5
        exact (Ent.drop2 _ _ _).trans h5
  · repeat first
      | refine W_seq ?_
      | refine W_skip ?_
      | refine W_block ?_
      | refine W_blk ?_
      | refine W_exit (by rfl) ?_
      | refine W_region (by rfl) ?_
      | refine W_opsnil ?_
      | refine W_pure TOk (by rfl) (by first | trivial | (simp only [okI, and_true, true_and, and_self] <;> omega)) ?_
      | refine W_on (by rfl) (by rfl) (by rfl) ?_
      | refine W_off (by rfl) (by rfl) (by rfl) (by rfl) (by rfl) ?_
      | refine W_offU (by rfl) (by rfl) (by rfl) (by rfl) ?_
      | refine W_cond_t (by rfl) ?_
      | refine W_cond_f (by rfl) ?_
    have e : k = ls.length := by omega
    subst e
    rw [List.take_length] at hfl
    exact W_retF (vs := [_]) ⟨rfl, trivial⟩ (Ent.blocks_in hvl _) ⟨A, c, ss, rfl, hfl, hne, rfl⟩
end Go.Proofs.Ytdfibmbedjpcgaa
