/- OperTurns: letters turned, by the reference. -/
import Derived.Test.YtdfibmbedjpcgaaO11
import Derived.Test.YtdfibmbedjpcgaaT4
set_option linter.unusedVariables false
set_option linter.unusedSimpArgs false
namespace Go.Proofs.Ytdfibmbedjpcgaa
open Go Go.RowKit Eng Ls
attribute [local irreducible] Eng.W

theorem turn_small {L : List (List Int)} (how : Int) {kd : Int} {a b : Nat × Nat} (h : RegOk L kd a b) : (turnS_ L how kd a b).length ≤ L.length ∧ tot (turnS_ L how kd a b) ≤ 3 * tot L := by
  have h1 := h.le
  have h2 := h.lt
  have hg : tot (gathS (turnRow how) L kd a b (b.1 + 1 - a.1)) ≤ tot L := gathS_tot (fun x f t h1 h2 => by rw [turnRow, turnP_len]; omega) L kd a b _ (by omega)
  have hgl := gathS_length (turnRow how) L kd a b (b.1 + 1 - a.1)
  have ht := tot_take L a.1
  have hd := tot_drop L (b.1 + 1)
  unfold turnS_
  rw [tot_append, tot_append, List.length_append, List.length_append, hgl, List.length_take, List.length_drop]
  exact ⟨by omega, by omega⟩
theorem in32_of {xss : List (List Int)} (h : ∀ r ∈ xss, ∀ n ∈ r, -2147483648 ≤ n) : ∀ i, i < xss.length → in32 (rowN xss i) := fun i hi k hk => by
  rw [rd_getE hk]
  refine h (rowN xss i) ?_ _ (List.getElem_mem _)
  rw [rowN_getE hi]
  exact List.getElem_mem _
set_option maxRecDepth 4000 in
set_option maxHeartbeats 4000000 in
theorem OperTurns_c (w : World) (A0 : Option Addr) (c0 : Nat) (xss : List (List Int)) (hl : RowsAt w A0 xss) (hc : xss.length ≤ c0) (hb : xss.length ≤ 300 → tot xss ≤ 36028797018963968) (hQ : ∀ i, i < xss.length → in32 (rowN xss i)) (fl fc tl tc kd how : Int) :
    Val Try.prog 22 [.slice A0 xss.length c0, rgV fl fc tl tc kd, .int .i32 how] w (.bool true) := by
  refine enterF Try.func22 rfl Try.ntmps22 rfl rfl ?_
  repeat first | refine W_seq ?_ | refine W_region (by rfl) ?_
  refine W_box (cs := [_, _, _, _, _]) (by rfl) (by rfl) (by rfl) (fun b4 => ?_)
  repeat first | refine W_seq ?_ | refine W_region (by rfl) ?_ | refine W_opsnil ?_ | refine W_pure TOk (by rfl) (by first | trivial | (simp only [okI, and_true, true_and, and_self] <;> omega) | omega) ?_
  refine W_callV (by rfl) Try.call45 (by rfl) (fun w1 hw => Fit_c w1 A0 c0 xss (hl.below hw.below) hb) ?_
  repeat first | refine W_opsnil ?_ | refine W_pure TOk (by rfl) (by first | trivial | (simp only [okI, and_true, true_and, and_self] <;> omega) | omega) ?_
  refine W_dec 13 (by rfl) (fun hs => ?_) (fun hs => ?_)
  · repeat first | refine W_seq ?_ | refine W_region (by rfl) ?_ | refine W_opsnil ?_ | refine W_pure TOk (by rfl) (by first | trivial | (simp only [okI, and_true, true_and, and_self] <;> omega) | omega) ?_ | refine W_cond_t (by rfl) ?_
    exact W_retF (vs := [_]) ⟨rfl, trivial⟩ (Ent.nil _) ⟨rfl, rfl⟩
  · have hsm : small xss = true ∧ plainL xss = true := by simpa using hs
    have hsm2 : xss.length ≤ 300 ∧ runes xss ≤ 3000 := by simpa [small] using hsm.1
    have hru : runes xss = xss.length - 1 + tot xss := rfl
    repeat first | refine W_seq ?_ | refine W_skip ?_ | refine W_cond_f (by rfl) ?_
    refine W_draw (fun w1 => St _ _ w1 _) [] [(0, 0), (2, 0), (3, 0), (1, 1), (4, 1), (5, 0), (6, 0), (7, 0), (8, 0), (9, 0)] (by kernel_rfl) (fun _ h => h) (by rfl) (by kernel_rfl) (fun hB => ?_)
    repeat first | refine D_pure TOk (by kernel_rfl) hB (by rfl) (by rfl) (by first | trivial | (simp only [okI, and_true, true_and, and_self] <;> omega) | omega) (fun hB => ?_) | refine D_load_boxN 0 TOk (by kernel_rfl) hB (by rfl) (by rfl) (by rfl) (by rfl) (by rfl) (by rfl) (fun _ h => h) (by rfl) (fun hB => ?_)
    refine D_one hB (by rfl) (fun hB => ?_)
    refine W_call _ (by rfl) Try.call46 (by rfl) (fun w1 hw => Twin_c w1 A0 c0 xss (hl.below hw.below) (by omega)) ?_; rintro _ _ ⟨A5, c5, vs5, rfl, hv5, rfl⟩; dsimp only [List.cons_append, List.nil_append]
    refine W_ownlen 0 (by rfl) (fun _ hq5 _ => ?_)
    repeat first | refine W_opsnil ?_
    repeat first | refine D_shown (fun _ h => h.ent (Ent.drop2 _ _ _)) ?_
    refine D_one hB (by rfl) (fun hB => ?_)
    refine W_call _ (by rfl) Try.call81 (by rfl) (fun w1 hw => Turn_c w1 A5 c5 xss (rows_of hw.hp 0 1 rfl rfl hv5) hq5 (by omega) hQ fl fc tl tc kd how) ?_
    rintro _ _ (⟨he, rfl, rfl⟩ | ⟨he, A6, c6, vs6, rfl, hv6, rfl⟩) <;> dsimp only [List.cons_append, List.nil_append]
    · repeat first | refine W_opsnil ?_
      repeat first | refine D_pure TOk (by kernel_rfl) hB (by rfl) (by rfl) (by first | trivial | (simp only [okI, and_true, true_and, and_self] <;> omega) | omega) (fun hB => ?_) | refine D_done hB ?_ | refine D_shown (fun _ h => h.ent (Ent.drop2 _ _ _)) ?_
      repeat first | refine W_seq ?_ | refine W_region (by rfl) ?_ | refine W_pure TOk (by rfl) (by first | trivial | (simp only [okI, and_true, true_and, and_self] <;> omega) | omega) ?_ | refine W_load_boxN 2 TOk (by rfl) (by rfl) (by rfl) (by rfl) (by rfl) ?_
      refine W_call _ (by rfl) Try.call82 (by rfl) (fun w1 hw => RTurn_c w1 A0 c0 xss (hl.below hw.below) (by omega) fl fc tl tc kd how) ?_
      rintro _ _ (⟨_, rfl, rfl⟩ | ⟨h, _⟩)
      rotate_left
      · exact absurd h he
      dsimp only [List.cons_append, List.nil_append]
      repeat first | refine W_seq ?_ | refine W_region (by rfl) ?_ | refine W_opsnil ?_ | refine W_pure TOk (by rfl) (by first | trivial | (simp only [okI, and_true, true_and, and_self] <;> omega) | omega) ?_
      refine W_dec 32 (by rfl) (fun _ => ?_) (fun h => by simp at h)
      repeat first | refine W_pure TOk (by rfl) (by first | trivial | (simp only [okI, and_true, true_and, and_self] <;> omega) | omega) ?_ | refine W_on (by rfl) (by rfl) (by rfl) ?_
      refine W_callV (by rfl) Try.call50 (by rfl) (fun w1 hw => Same_c w1 none none 0 0 [] [] (RowsAt.nil _ _) (RowsAt.nil _ _) (by decide) (by decide)) ?_
      repeat first | refine W_pure TOk (by rfl) (by first | trivial | (simp only [okI, and_true, true_and, and_self] <;> omega) | omega) ?_ | refine W_on (by rfl) (by rfl) (by rfl) ?_
      refine W_dec 37 (by rfl) (fun _ => ?_) (fun h => by simp at h)
      refine W_callV (by rfl) Try.call51 (by rfl) (fun w1 hw => Awake13_c w1) ?_
      repeat first | refine W_opsnil ?_ | refine W_pure TOk (by rfl) (by first | trivial | (simp only [okI, and_true, true_and, and_self] <;> omega) | omega) ?_
      exact W_retF (vs := [_]) ⟨rfl, trivial⟩ (Ent.nil _) ⟨rfl, rfl⟩
    · repeat first | refine W_opsnil ?_
      refine D_shown (fun _ h => h.ent (Ent.sel [4] _ (by rfl))) ?_
      repeat first | refine D_pure TOk (by kernel_rfl) hB (by rfl) (by rfl) (by first | trivial | (simp only [okI, and_true, true_and, and_self] <;> omega) | omega) (fun hB => ?_) | refine D_done hB ?_
      repeat first | refine W_seq ?_ | refine W_region (by rfl) ?_ | refine W_pure TOk (by rfl) (by first | trivial | (simp only [okI, and_true, true_and, and_self] <;> omega) | omega) ?_ | refine W_load_boxN 4 TOk (by rfl) (by rfl) (by rfl) (by rfl) (by rfl) ?_
      refine W_call _ (by rfl) Try.call82 (by rfl) (fun w1 hw => RTurn_c w1 A0 c0 xss (hl.below hw.below) (by omega) fl fc tl tc kd how) ?_
      rintro _ _ (⟨h, _⟩ | ⟨_, A9, c9, vs9, rfl, hv9, rfl⟩)
      · exact absurd he h
      dsimp only [List.cons_append, List.nil_append]
      have hre : regE xss fl fc tl tc kd = 0 := by
        unfold turnE at he
        split at he
        · cases he
        · exact he
      obtain ⟨hcs1, hcs2⟩ := turn_small how (regOk hre).1
      generalize turnS_ xss how kd (regA fl fc tl tc) (regB fl fc tl tc) = R at *
      repeat first | refine W_seq ?_ | refine W_region (by rfl) ?_ | refine W_opsnil ?_ | refine W_pure TOk (by rfl) (by first | trivial | (simp only [okI, and_true, true_and, and_self] <;> omega) | omega) ?_ | refine W_on (by rfl) (by rfl) (by rfl) ?_
      refine W_dec 32 (by rfl) (fun _ => ?_) (fun h => by simp at h)
      refine W_callV (by rfl) Try.call50 (by rfl) (fun w1 hw => Same_c w1 A6 A9 c6 c9 R R (rows_of hw.hp 2 3 rfl rfl hv6) (rows_of hw.hp 0 1 rfl rfl hv9) (by omega) (by omega)) ?_
      repeat first | refine W_pure TOk (by rfl) (by first | trivial | (simp only [okI, and_true, true_and, and_self] <;> omega) | omega) ?_
      refine W_dec 37 (by rfl) (fun _ => ?_) (fun h => by simp at h)
      repeat first | refine W_on (by rfl) (by rfl) (by rfl) ?_
      refine W_callV (by rfl) Try.call51 (by rfl) (fun w1 hw => Awake13_c w1) ?_
      repeat first | refine W_opsnil ?_ | refine W_pure TOk (by rfl) (by first | trivial | (simp only [okI, and_true, true_and, and_self] <;> omega) | omega) ?_
      exact W_retF (vs := [_]) ⟨rfl, trivial⟩ (Ent.nil _) ⟨rfl, rfl⟩
end Go.Proofs.Ytdfibmbedjpcgaa
