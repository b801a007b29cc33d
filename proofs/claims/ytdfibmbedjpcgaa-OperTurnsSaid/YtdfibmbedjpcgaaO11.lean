/- Contracts: the gate, and the law that awakes. -/
import Derived.Test.YtdfibmbedjpcgaaO10
import Derived.Test.YtdfibmbedjpcgaaO8
import Derived.Test.YtdfibmbedjpcgaaR3
set_option linter.unusedVariables false
set_option linter.unusedSimpArgs false
namespace Go.Proofs.Ytdfibmbedjpcgaa
open Go Go.RowKit Eng Ls
attribute [local irreducible] Eng.W

set_option maxHeartbeats 1000000 in
theorem Plain13_c (w : World) (A : Option Addr) (c : Nat) (xss : List (List Int)) (hl : RowsAt w A xss) (hb : xss.length + tot xss ≤ 1152921504606846976) :
    Val Try.prog 111 [.slice A xss.length c] w (.bool (plainL xss)) := by
  refine enterF Try.func111 rfl Try.ntmps111 rfl rfl ?_
  repeat first | refine W_seq ?_ | refine W_block ?_ | refine W_region (by rfl) ?_ | refine W_opsnil ?_ | refine W_pure TOk (by rfl) (by first | trivial | (simp only [okI, and_true, true_and, and_self] <;> omega) | omega) ?_
  refine W_loop (ι := Nat) (fun i => [(0, .slice A xss.length c), (3, .int .i64 (i : Nat))]) (fun _ => []) (fun i => i ≤ xss.length ∧ plainL (xss.take i) = true) (fun i => xss.length - i) 0
    ⟨by omega, rfl⟩ ⟨rfl, rfl, trivial⟩ (Ent.refl _) ?_
  rintro i ⟨hi, hp⟩
  repeat first | refine W_seq ?_ | refine W_region (by rfl) ?_ | refine W_opsnil ?_ | refine W_pure TOk (by rfl) (by first | trivial | (simp only [okI, and_true, true_and, and_self] <;> omega) | omega) ?_
  refine W_cond_d (by rfl) (fun hlt => ?_) (fun hge => ?_)
  · obtain ⟨B, cB, hcB, hB, hvs⟩ := hl.row (i := (i : Int)) (by omega) hlt
    have hrl := row_len_le xss (i := (i : Int)) (by omega) hlt
    repeat first | refine W_seq ?_ | refine W_skip ?_ | refine W_block ?_ | refine W_region (by rfl) ?_ | refine W_opsnil ?_ | refine W_pure TOk (by rfl) (by first | trivial | (simp only [okI, and_true, true_and, and_self] <;> omega) | omega) ?_
    refine W_loop (ι := Nat) (fun j => [(0, .slice A xss.length c), (3, .int .i64 (i : Nat)), (4, .int .i64 (j : Nat))]) (fun _ => []) (fun j => j ≤ (rw_ xss i).length ∧ noNl ((rw_ xss i).take j) = true) (fun j => (rw_ xss i).length - j) 0
      ⟨by omega, rfl⟩ ⟨rfl, rfl, rfl, trivial⟩ (Ent.refl _) ?_
    rintro j ⟨hj, hq⟩
    repeat first | refine W_seq ?_ | refine W_region (by rfl) ?_ | refine W_pure TOk (by rfl) (by first | trivial | (simp only [okI, and_true, true_and, and_self] <;> omega) | omega) ?_
    refine W_index TOk (by rfl) (by rfl) (by rfl) (by first | exact es48 | exact es22 | exact es136 | exact es150 | exact es223 | exact es29 | exact es132 | exact es207) (by omega) (by omega) (fun w1 hw => (hl.below hw.below).isSome (by omega)) ?_
    refine W_load TOk (by rfl) (by rfl) (by rfl) (fun w1 hw => cells_elem1 hvs hw.below) ?_
    repeat first | refine W_opsnil ?_ | refine W_pure TOk (by rfl) (by first | trivial | (simp only [okI, and_true, true_and, and_self] <;> omega) | omega) ?_
    refine W_cond_d (by rfl) (fun hjlt => ?_) (fun hjge => ?_)
    · repeat first | refine W_seq ?_ | refine W_skip ?_ | refine W_block ?_ | refine W_region (by rfl) ?_ | refine W_pure TOk (by rfl) (by first | trivial | (simp only [okI, and_true, true_and, and_self] <;> omega) | omega) ?_
      refine W_index TOk (by rfl) (by rfl) (by rfl) (by first | exact es48 | exact es22 | exact es136 | exact es150 | exact es223 | exact es29 | exact es132 | exact es207) (by omega) (by omega) (fun w1 hw => (hl.below hw.below).isSome (by omega)) ?_
      refine W_load TOk (by rfl) (by rfl) (by rfl) (fun w1 hw => cells_elem1 hvs hw.below) ?_
      repeat first | refine W_pure TOk (by rfl) (by first | trivial | (simp only [okI, and_true, true_and, and_self] <;> omega) | omega) ?_
      refine W_index TOk (by rfl) (by rfl) (by rfl) (by first | exact es48 | exact es22 | exact es136 | exact es150 | exact es223 | exact es29 | exact es132 | exact es207) (by omega) (by omega) (fun w1 hw => (hB.below hw.below).isSome (by rw [i32s_length]; omega)) ?_
      refine W_load TOk (by rfl) (by rfl) (by rfl) (fun w1 hw => (hB.below hw.below).elem1 (i32s_get (by omega) hjlt)) ?_
      repeat first | refine W_opsnil ?_ | refine W_pure TOk (by rfl) (by first | trivial | (simp only [okI, and_true, true_and, and_self] <;> omega) | omega) ?_
      refine W_cond_d (by rfl) (fun he => ?_) (fun hne => ?_)
      · repeat first | refine W_seq ?_ | refine W_region (by rfl) ?_ | refine W_opsnil ?_ | refine W_pure TOk (by rfl) (by first | trivial | (simp only [okI, and_true, true_and, and_self] <;> omega) | omega) ?_
        refine W_retF (vs := [_]) ⟨rfl, trivial⟩ (Ent.refl _) ⟨?_, rfl⟩
        rw [plain_false (i := i) (by omega) (noNl_false (k := j) (by omega) he)]; rfl
      · repeat first | refine W_skip ?_ | refine W_blk ?_ | refine W_region (by rfl) ?_ | refine W_opsnil ?_ | refine W_pure TOk (by rfl) (by first | trivial | (simp only [okI, and_true, true_and, and_self] <;> omega) | omega) ?_
        exact W_inv (j + 1) ⟨by omega, noNl_take_succ (by omega) hq hne⟩ (by omega) ⟨rfl, rfl, rfl, trivial⟩ (Ent.refl _)
    · repeat first | refine W_blk ?_ | refine W_exit (by rfl) ?_ | refine W_region (by rfl) ?_ | refine W_opsnil ?_ | refine W_pure TOk (by rfl) (by first | trivial | (simp only [okI, and_true, true_and, and_self] <;> omega) | omega) ?_
      refine W_inv (i + 1) ⟨by omega, plain_take_succ (by omega) hp ?_⟩ (by omega) ⟨rfl, rfl, trivial⟩ (Ent.refl _)
      have e : j = (rw_ xss i).length := by omega
      rw [e, List.take_length] at hq
      exact hq
  · repeat first | refine W_seq ?_ | refine W_exit (by rfl) ?_ | refine W_region (by rfl) ?_ | refine W_opsnil ?_ | refine W_pure TOk (by rfl) (by first | trivial | (simp only [okI, and_true, true_and, and_self] <;> omega) | omega) ?_
    refine W_retF (vs := [_]) ⟨rfl, trivial⟩ (Ent.refl _) ⟨?_, rfl⟩
    have e : i = xss.length := by omega
    rw [e, List.take_length] at hp
    rw [hp]; rfl

theorem Fit_c (w : World) (A : Option Addr) (c : Nat) (xss : List (List Int)) (hl : RowsAt w A xss) (hb : xss.length ≤ 300 → tot xss ≤ 36028797018963968) :
    Val Try.prog 45 [.slice A xss.length c] w (.bool (small xss && plainL xss)) := by
  refine enterF Try.func45 rfl Try.ntmps45 rfl rfl ?_
  repeat first | refine W_seq ?_ | refine W_region (by rfl) ?_ | refine W_opsnil ?_ | refine W_pure TOk (by rfl) (by first | trivial | (simp only [okI, and_true, true_and, and_self] <;> omega) | omega) ?_
  refine W_callV (by rfl) Try.call37 (by rfl) (fun w1 hw => Small_c w1 A c xss (hl.below hw.below) hb) ?_
  repeat first | refine W_pure TOk (by rfl) (by first | trivial | (simp only [okI, and_true, true_and, and_self] <;> omega) | omega) ?_
  refine W_dec 5 (by rfl) (fun h => ?_) (fun h => ?_)
  · have hsm2 : xss.length ≤ 300 ∧ runes xss ≤ 3000 := by simpa [small] using h
    have hru : runes xss = xss.length - 1 + tot xss := rfl
    repeat first | refine W_pure TOk (by rfl) (by first | trivial | (simp only [okI, and_true, true_and, and_self] <;> omega) | omega) ?_ | refine W_on (by rfl) (by rfl) (by rfl) ?_
    refine W_callV (by rfl) Try.call111 (by rfl) (fun w1 hw => Plain13_c w1 A c xss (hl.below hw.below) (by omega)) ?_
    repeat first | refine W_opsnil ?_ | refine W_pure TOk (by rfl) (by first | trivial | (simp only [okI, and_true, true_and, and_self] <;> omega) | omega) ?_
    refine W_retF (vs := [_]) ⟨rfl, trivial⟩ (Ent.refl _) ⟨?_, rfl⟩
    rw [h, Bool.true_and]; rfl
  · repeat first | refine W_opsnil ?_ | refine W_pure TOk (by rfl) (by first | trivial | (simp only [okI, and_true, true_and, and_self] <;> omega) | omega) ?_ | refine W_off (by rfl) (by rfl) (by rfl) (by rfl) (by rfl) ?_
    refine W_retF (vs := [_]) ⟨rfl, trivial⟩ (Ent.refl _) ⟨?_, rfl⟩
    rw [h, Bool.false_and]; rfl
def awL : List (List Int) := [[97, 98], [99, 100]]
theorem rows_one1 {w : World} {A B0 : Option Addr} {n0 c0 : Nat} {r0 : List Int} (h : Cells w A [.slice B0 n0 c0]) (e0 : n0 = r0.length) (h0 : Cells w B0 (i32s r0)) (k0 : r0.length ≤ c0) : RowsAt w A [r0] := by
  subst e0
  refine ⟨_, h, rfl, fun i xs hi => ?_⟩
  match i, hi with
  | 0, hi =>
    have : xs = r0 := by simpa using hi.symm
    subst this
    exact ⟨B0, c0, rfl, k0, h0⟩
  | k + 1, hi => simp at hi
set_option maxHeartbeats 4000000 in
theorem Awake13_c (w : World) : Val Try.prog 51 [] w (.bool true) := by
  refine enterF Try.func51 rfl Try.ntmps51 rfl rfl ?_
  repeat first | refine W_seq ?_ | refine W_region (by rfl) ?_ | refine W_opsnil ?_ | refine W_pure TOk (by rfl) (by first | trivial | (simp only [okI, and_true, true_and, and_self] <;> omega) | omega) ?_
  refine W_lit TOk (cs := [_, _]) (by rfl) sl48 (by rfl) (by rfl) (by rfl) (by rfl) (fun g1 => ?_)
  refine W_lit TOk (cs := [_, _]) (by rfl) sl48 (by rfl) (by rfl) (by rfl) (by rfl) (fun g2 => ?_)
  refine W_lit TOk (cs := [_, _]) (by rfl) sl22 (by rfl) (by rfl) (by rfl) (by rfl) (fun g3 => ?_)
  repeat first | refine W_seq ?_ | refine W_region (by rfl) ?_ | refine W_opsnil ?_ | refine W_pure TOk (by rfl) (by first | trivial | (simp only [okI, and_true, true_and, and_self] <;> omega) | omega) ?_
  refine W_alloc (cs := [_, _, _, _, _]) TOk (by rfl) (by rfl) (fun b2 => ?_)
  repeat first | refine W_seq ?_ | refine W_region (by rfl) ?_ | refine W_opsnil ?_ | refine W_pure TOk (by rfl) (by first | trivial | (simp only [okI, and_true, true_and, and_self] <;> omega) | omega) ?_ | refine W_load_boxN 0 TOk (by rfl) (by rfl) (by rfl) (by rfl) (by rfl) ?_ | (refine W_store_box 0 TOk (by rfl) (by rfl) (by rfl) (by rfl) (by rfl) (by rfl) ?_; dsimp only [setL, putL, vcells])
  refine W_call _ (by rfl) Try.call47 (by rfl) (fun w1 hw => Take_c w1 (some ⟨g3, 0, none⟩) 2 [[97, 98], [99, 100]] (rows_pair (r0 := [97, 98]) (r1 := [99, 100]) (hw.hp.cells 1 rfl) rfl rfl (hw.hp.cells 3 rfl) (hw.hp.cells 2 rfl) (by decide) (by decide)) (by decide) 0 1 1 0 0) ?_
  rintro _ _ (⟨h, _⟩ | ⟨_, A3, c3, vs3, rfl, hv3, rfl⟩)
  · exact absurd (by decide) h
  rw [show takeS [[97, 98], [99, 100]] 0 1 1 0 0 = [[98], [99]] by decide] at hv3 ⊢
  dsimp only [List.cons_append, List.nil_append]
  repeat first | refine W_pure TOk (by rfl) (by first | trivial | (simp only [okI, and_true, true_and, and_self] <;> omega) | omega) ?_
  refine W_alloc (cs := [_, _]) TOk (by rfl) (by rfl) (fun b3 => ?_)
  repeat first | refine W_seq ?_ | refine W_region (by rfl) ?_ | refine W_opsnil ?_ | refine W_pure TOk (by rfl) (by first | trivial | (simp only [okI, and_true, true_and, and_self] <;> omega) | omega) ?_ | refine W_load_boxN 3 TOk (by rfl) (by rfl) (by rfl) (by rfl) (by rfl) ?_ | (refine W_store_box 0 TOk (by rfl) (by rfl) (by rfl) (by rfl) (by rfl) (by rfl) ?_; dsimp only [setL, putL, vcells])
  refine W_call _ (by rfl) Try.call52 (by rfl) (fun w1 hw => Cut_c w1 (some ⟨g3, 0, none⟩) 2 [[97, 98], [99, 100]] (rows_pair (r0 := [97, 98]) (r1 := [99, 100]) (hw.hp.cells 4 rfl) rfl rfl (hw.hp.cells 6 rfl) (hw.hp.cells 5 rfl) (by decide) (by decide)) (by decide) (by decide) 0 1 1 0 0) ?_
  rintro _ _ (⟨h, _⟩ | ⟨_, A4, c4, vs4, rfl, hv4, rfl⟩)
  · exact absurd (by decide) h
  rw [show cutS [[97, 98], [99, 100]] 0 (regA 0 1 1 0) (regB 0 1 1 0) = ([[97, 100]], (0, 1)) by decide] at hv4 ⊢
  dsimp only [List.cons_append, List.nil_append] at hv4 ⊢
  repeat first | refine W_pure TOk (by rfl) (by first | trivial | (simp only [okI, and_true, true_and, and_self] <;> omega) | omega) ?_
  refine W_alloc (cs := [_, _]) TOk (by rfl) (by rfl) (fun b6 => ?_)
  repeat first | refine W_seq ?_ | refine W_region (by rfl) ?_ | refine W_opsnil ?_ | refine W_pure TOk (by rfl) (by first | trivial | (simp only [okI, and_true, true_and, and_self] <;> omega) | omega) ?_ | (refine W_store_box 0 TOk (by rfl) (by rfl) (by rfl) (by rfl) (by rfl) (by rfl) ?_; dsimp only [setL, putL, vcells])
  refine W_ent ((Ent.sel [7, 7, 7, 0, 0, 0, 0, 0, 0] _ (by rfl))) ?_
  refine W_lit TOk (cs := [_, _]) (by rfl) sl48 (by rfl) (by rfl) (by rfl) (by rfl) (fun g4 => ?_)
  refine W_lit TOk (cs := [_]) (by rfl) (by first | exact sl48 | exact sl22 | exact sl136 | exact sl150 | exact sl223 | exact sl29 | exact sl132 | exact sl207) (by rfl) (by rfl) (by rfl) (by rfl) (fun g5 => ?_)
  repeat first | refine W_pure TOk (by rfl) (by first | trivial | (simp only [okI, and_true, true_and, and_self] <;> omega) | omega) ?_
  refine W_call _ (by rfl) Try.call55 (by rfl) (fun w1 hw => Paste_h w1 (some ⟨g3, 0, none⟩) 2 [[97, 98], [99, 100]] (rows_pair (r0 := [97, 98]) (r1 := [99, 100]) (hw.hp.cells 2 rfl) rfl rfl (hw.hp.cells 4 rfl) (hw.hp.cells 3 rfl) (by decide) (by decide)) (by decide) (by decide) 0 0 (some ⟨g5, 0, none⟩) 1 [[120, 121]] (rows_one1 (r0 := [120, 121]) (hw.hp.cells 0 rfl) rfl (hw.hp.cells 1 rfl) (by decide)) (by decide) (by decide) true 2 (by decide) (by decide) (by decide) (by decide) (by decide) (by decide)) ?_
  rintro _ _ (⟨h, _⟩ | ⟨_, A5, c5, vs5, rfl, hv5, rfl⟩)
  · exact absurd (by decide) h
  rw [show charP [[97, 98], [99, 100]] 0 0 true 2 (rowN [[120, 121]] 0) (List.drop 1 [[120, 121]]) = ([[97, 120, 121, 120, 121, 98], [99, 100]], (0, 4)) by decide] at hv5 ⊢
  dsimp only [List.cons_append, List.nil_append] at hv5 ⊢
  repeat first | refine W_pure TOk (by rfl) (by first | trivial | (simp only [okI, and_true, true_and, and_self] <;> omega) | omega) ?_
  refine W_alloc (cs := [_, _]) TOk (by rfl) (by rfl) (fun b9 => ?_)
  repeat first | refine W_seq ?_ | refine W_region (by rfl) ?_ | refine W_opsnil ?_ | refine W_pure TOk (by rfl) (by first | trivial | (simp only [okI, and_true, true_and, and_self] <;> omega) | omega) ?_ | (refine W_store_box 0 TOk (by rfl) (by rfl) (by rfl) (by rfl) (by rfl) (by rfl) ?_; dsimp only [setL, putL, vcells])
  refine W_ent ((Ent.sel [0, 0, 0, 5, 5, 5, 5, 5, 5] _ (by rfl))) ?_
  refine W_lit TOk (cs := [_]) (by rfl) (by first | exact sl48 | exact sl22 | exact sl136 | exact sl150 | exact sl223 | exact sl29 | exact sl132 | exact sl207) (by rfl) (by rfl) (by rfl) (by rfl) (fun g6 => ?_)
  refine W_lit TOk (cs := [_]) (by rfl) (by first | exact sl48 | exact sl22 | exact sl136 | exact sl150 | exact sl223 | exact sl29 | exact sl132 | exact sl207) (by rfl) (by rfl) (by rfl) (by rfl) (fun g7 => ?_)
  refine W_lit TOk (cs := [_, _]) (by rfl) sl22 (by rfl) (by rfl) (by rfl) (by rfl) (fun g8 => ?_)
  refine W_call _ (by rfl) Try.call79 (by rfl) (fun w1 hw => Join_c w1 (some ⟨g8, 0, none⟩) 2 [[97], [98]] (rows_pair (r0 := [97]) (r1 := [98]) (hw.hp.cells 0 rfl) rfl rfl (hw.hp.cells 2 rfl) (hw.hp.cells 1 rfl) (by decide) (by decide)) (by decide) (by decide) 0 2) ?_
  rintro _ _ (⟨h, _⟩ | ⟨_, A6, c6, vs6, rfl, hv6, rfl⟩)
  · exact absurd (by decide) h
  rw [show joinR [[97], [98]] 0 2 = ([[97, 32, 98]], (0, 1)) by decide] at hv6 ⊢
  dsimp only [List.cons_append, List.nil_append] at hv6 ⊢
  repeat first | refine W_pure TOk (by rfl) (by first | trivial | (simp only [okI, and_true, true_and, and_self] <;> omega) | omega) ?_
  refine W_alloc (cs := [_, _]) TOk (by rfl) (by rfl) (fun b12 => ?_)
  repeat first | refine W_seq ?_ | refine W_region (by rfl) ?_ | refine W_opsnil ?_ | refine W_pure TOk (by rfl) (by first | trivial | (simp only [okI, and_true, true_and, and_self] <;> omega) | omega) ?_ | refine W_on (by rfl) (by rfl) (by rfl) ?_ | (refine W_store_box 0 TOk (by rfl) (by rfl) (by rfl) (by rfl) (by rfl) (by rfl) ?_; dsimp only [setL, putL, vcells])
  refine W_ent ((Ent.sel [0, 0, 0, 3, 3, 3, 3, 3, 3, 3, 3, 3] _ (by rfl))) ?_
  repeat first | refine W_on (by rfl) (by rfl) (by rfl) ?_ | refine W_load_box 9 TOk (by rfl) (by rfl) (by rfl) (by rfl) (by rfl) ?_
  refine W_lit TOk (cs := [_]) (by rfl) (by first | exact sl48 | exact sl22 | exact sl136 | exact sl150 | exact sl223 | exact sl29 | exact sl132 | exact sl207) (by rfl) (by rfl) (by rfl) (by rfl) (fun g9 => ?_)
  repeat first | refine W_on (by rfl) (by rfl) (by rfl) ?_
  refine W_lit TOk (cs := [_]) (by rfl) (by first | exact sl48 | exact sl22 | exact sl136 | exact sl150 | exact sl223 | exact sl29 | exact sl132 | exact sl207) (by rfl) (by rfl) (by rfl) (by rfl) (fun g10 => ?_)
  repeat first | refine W_on (by rfl) (by rfl) (by rfl) ?_
  refine W_lit TOk (cs := [_, _]) (by rfl) sl22 (by rfl) (by rfl) (by rfl) (by rfl) (fun g11 => ?_)
  repeat first | refine W_on (by rfl) (by rfl) (by rfl) ?_
  refine W_callV (by rfl) Try.call50 (by rfl) (fun w1 hw => Same_c w1 A3 (some ⟨g11, 0, none⟩) c3 2 [[98], [99]] [[98], [99]] (rows_of hw.hp 13 14 rfl rfl hv3) (rows_pair (r0 := [98]) (r1 := [99]) (hw.hp.cells 0 rfl) rfl rfl (hw.hp.cells 2 rfl) (hw.hp.cells 1 rfl) (by decide) (by decide)) (by decide) (by decide)) ?_
  rw [show decide (([[98], [99]] : List (List Int)) = [[98], [99]]) = true by decide]
  repeat first | refine W_pure TOk (by rfl) (by first | trivial | (simp only [okI, and_true, true_and, and_self] <;> omega) | omega) ?_ | refine W_on (by rfl) (by rfl) (by rfl) ?_
  refine W_lit TOk (cs := [_, _]) (by rfl) sl48 (by rfl) (by rfl) (by rfl) (by rfl) (fun g12 => ?_)
  repeat first | refine W_on (by rfl) (by rfl) (by rfl) ?_
  refine W_lit TOk (cs := [_]) (by rfl) (by first | exact sl48 | exact sl22 | exact sl136 | exact sl150 | exact sl223 | exact sl29 | exact sl132 | exact sl207) (by rfl) (by rfl) (by rfl) (by rfl) (fun g13 => ?_)
  repeat first | refine W_on (by rfl) (by rfl) (by rfl) ?_
  refine W_callV (by rfl) Try.call50 (by rfl) (fun w1 hw => Same_c w1 A4 (some ⟨g13, 0, none⟩) c4 1 [[97, 100]] [[97, 100]] (rows_of hw.hp 12 13 rfl rfl hv4) (rows_one1 (r0 := [97, 100]) (hw.hp.cells 0 rfl) rfl (hw.hp.cells 1 rfl) (by decide)) (by decide) (by decide)) ?_
  rw [show decide (([[97, 100]] : List (List Int)) = [[97, 100]]) = true by decide]
  repeat first | refine W_pure TOk (by rfl) (by first | trivial | (simp only [okI, and_true, true_and, and_self] <;> omega) | omega) ?_ | refine W_on (by rfl) (by rfl) (by rfl) ?_ | refine W_load_boxN 11 TOk (by rfl) (by rfl) (by rfl) (by rfl) (by rfl) ?_
  refine W_ent ((Ent.sel [5, 5, 5, 5, 5, 5] _ (by rfl))) ?_
  obtain ⟨v5, hv50⟩ : ∃ v, vs5[0]? = some v := ⟨_, List.getElem?_eq_getElem (by rw [hv5]; decide)⟩
  refine W_pick 5 (by rfl) ?_
  refine W_ent (rowsA_split (xs := [97, 120, 121, 120, 121, 98]) vs5 [[97, 120, 121, 120, 121, 98], [99, 100]] hv5 hv50 rfl _) ?_
  refine W_rowA (fun A7 c7 hvA => ?_)
  subst hvA
  rw [show ([[97, 120, 121, 120, 121, 98], [99, 100]] : List (List Int)).length = 2 from rfl] at hv5 ⊢
  refine W_index TOk (by rfl) (by rfl) (by rfl) (by first | exact es48 | exact es22 | exact es136 | exact es150 | exact es223 | exact es29 | exact es132 | exact es207) (by omega) (by omega) (fun w1 hw => (hw.hp.cells 7 rfl).isSome (by rw [hv5]; decide)) ?_
  repeat first | refine W_on (by rfl) (by rfl) (by rfl) ?_
  refine W_load TOk (by rfl) (by rfl) (by rfl) (fun w1 hw => (hw.hp.cells 7 rfl).elem1 hv50) ?_
  repeat first | refine W_pure TOk (by rfl) (by first | trivial | (simp only [okI, and_true, true_and, and_self] <;> omega) | omega) ?_ | refine W_on (by rfl) (by rfl) (by rfl) ?_ | refine W_load_boxN 6 TOk (by rfl) (by rfl) (by rfl) (by rfl) (by rfl) ?_
  obtain ⟨v6, hv60⟩ : ∃ v, vs6[0]? = some v := ⟨_, List.getElem?_eq_getElem (by rw [hv6]; decide)⟩
  refine W_pick 5 (by rfl) ?_
  refine W_ent (rowsA_split (xs := [97, 32, 98]) vs6 [[97, 32, 98]] hv6 hv60 rfl _) ?_
  refine W_rowA (fun A8 c8 hvA => ?_)
  subst hvA
  rw [show ([[97, 32, 98]] : List (List Int)).length = 1 from rfl] at hv6 ⊢
  refine W_index TOk (by rfl) (by rfl) (by rfl) (by first | exact es48 | exact es22 | exact es136 | exact es150 | exact es223 | exact es29 | exact es132 | exact es207) (by omega) (by omega) (fun w1 hw => (hw.hp.cells 7 rfl).isSome (by rw [hv6]; decide)) ?_
  repeat first | refine W_on (by rfl) (by rfl) (by rfl) ?_
  refine W_load TOk (by rfl) (by rfl) (by rfl) (fun w1 hw => (hw.hp.cells 7 rfl).elem1 hv60) ?_
  repeat first | refine W_opsnil ?_ | refine W_pure TOk (by rfl) (by first | trivial | (simp only [okI, and_true, true_and, and_self] <;> omega) | omega) ?_ | refine W_on (by rfl) (by rfl) (by rfl) ?_ | refine W_load_boxN 6 TOk (by rfl) (by rfl) (by rfl) (by rfl) (by rfl) ?_
  exact W_retF (vs := [.bool true]) ⟨rfl, trivial⟩ (Ent.nil _) ⟨rfl, rfl⟩
end Go.Proofs.Ytdfibmbedjpcgaa
