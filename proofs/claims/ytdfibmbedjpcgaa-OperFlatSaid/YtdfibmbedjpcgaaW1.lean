/- OperCuts: what is cut out, by the reference. -/
import Derived.Test.YtdfibmbedjpcgaaO11
import Derived.Test.YtdfibmbedjpcgaaO7
set_option linter.unusedVariables false
set_option linter.unusedSimpArgs false
namespace Go.Proofs.Ytdfibmbedjpcgaa
open Go Go.RowKit Eng Ls
attribute [local irreducible] Eng.W

theorem orOne_small (L : List (List Int)) : (orOne L).length ≤ L.length + 1 ∧ tot (orOne L) ≤ tot L := by
  unfold orOne
  split
  · exact ⟨by simp, by simp [tot]⟩
  · exact ⟨by omega, Nat.le_refl _⟩
theorem cut_small {L : List (List Int)} {kd : Int} {a b : Nat × Nat} (h : RegOk L kd a b) : (cutS L kd a b).1.length ≤ L.length + 1 ∧ tot (cutS L kd a b).1 ≤ 3 * tot L := by
  have h1 := h.le
  have h2 := h.lt
  have hg := gath_out_tot L kd a b h2 h1
  have ht := tot_take L a.1
  have hd := tot_drop L (b.1 + 1)
  have hgl := gathS_length cutOut L kd a b (b.1 + 1 - a.1)
  have hfl := flat_len (gathS cutOut L kd a b (b.1 + 1 - a.1))
  unfold cutS
  split
  · have := orOne_small (L.take a.1 ++ L.drop (b.1 + 1))
    rw [tot_append, List.length_append, List.length_take, List.length_drop] at this
    dsimp only
    exact ⟨by omega, by omega⟩
  · split
    · simp only [tot_append, List.length_append, List.length_take, List.length_drop, List.length_cons, List.length_nil]
      have e : tot [(gathS cutOut L kd a b (b.1 + 1 - a.1)).flatten] = (gathS cutOut L kd a b (b.1 + 1 - a.1)).flatten.length := by simp [tot]
      rw [e]
      exact ⟨by omega, by omega⟩
    · simp only [tot_append, List.length_append, List.length_take, List.length_drop, hgl]
      exact ⟨by omega, by omega⟩
set_option maxHeartbeats 4000000 in
theorem OperCuts_c (w : World) (A0 : Option Addr) (c0 : Nat) (xss : List (List Int)) (hl : RowsAt w A0 xss) (hc : xss.length ≤ c0) (hb : xss.length ≤ 300 → tot xss ≤ 36028797018963968) (fl fc tl tc kd : Int) :
    Val Try.prog 7 [.slice A0 xss.length c0, rgV fl fc tl tc kd] w (.bool true) := by
  refine enterF Try.func7 rfl Try.ntmps7 rfl rfl ?_
  repeat first | refine W_seq ?_ | refine W_region (by rfl) ?_
  refine W_box (cs := [_, _, _, _, _]) (by rfl) (by rfl) (by rfl) (fun b3 => ?_)
  repeat first | refine W_seq ?_ | refine W_region (by rfl) ?_ | refine W_opsnil ?_ | refine W_pure TOk (by rfl) (by first | trivial | (simp only [okI, and_true, true_and, and_self] <;> omega) | omega) ?_
  refine W_callV (by rfl) Try.call45 (by rfl) (fun w1 hw => Fit_c w1 A0 c0 xss (hl.below hw.below) hb) ?_
  repeat first | refine W_opsnil ?_ | refine W_pure TOk (by rfl) (by first | trivial | (simp only [okI, and_true, true_and, and_self] <;> omega) | omega) ?_
  refine W_dec 14 (by rfl) (fun hs => ?_) (fun hs => ?_)
  · repeat first | refine W_seq ?_ | refine W_region (by rfl) ?_ | refine W_opsnil ?_ | refine W_pure TOk (by rfl) (by first | trivial | (simp only [okI, and_true, true_and, and_self] <;> omega) | omega) ?_ | refine W_cond_t (by rfl) ?_
    exact W_retF (vs := [_]) ⟨rfl, trivial⟩ (Ent.nil _) ⟨rfl, rfl⟩
  · have hsm : small xss = true ∧ plainL xss = true := by simpa using hs
    have hsm2 : xss.length ≤ 300 ∧ runes xss ≤ 3000 := by simpa [small] using hsm.1
    have hru : runes xss = xss.length - 1 + tot xss := rfl
    repeat first | refine W_seq ?_ | refine W_skip ?_ | refine W_region (by rfl) ?_ | refine W_pure TOk (by rfl) (by first | trivial | (simp only [okI, and_true, true_and, and_self] <;> omega) | omega) ?_ | refine W_cond_f (by rfl) ?_
    refine W_call _ (by rfl) Try.call46 (by rfl) (fun w1 hw => Twin_c w1 A0 c0 xss (hl.below hw.below) (by omega)) ?_; rintro _ _ ⟨A5, c5, vs5, rfl, hv5, rfl⟩; dsimp only [List.cons_append, List.nil_append]
    refine W_ownlen 0 (by rfl) (fun _ hq2 _ => ?_)
    repeat first | refine W_seq ?_ | refine W_region (by rfl) ?_ | refine W_opsnil ?_ | refine W_pure TOk (by rfl) (by first | trivial | (simp only [okI, and_true, true_and, and_self] <;> omega) | omega) ?_ | refine W_load_boxN 2 TOk (by rfl) (by rfl) (by rfl) (by rfl) (by rfl) ?_
    refine W_call _ (by rfl) Try.call52 (by rfl) (fun w1 hw => Cut_c w1 A5 c5 xss (rows_of hw.hp 0 1 rfl rfl hv5) hq2 (by omega) fl fc tl tc kd) ?_
    rintro _ _ (⟨he, rfl, rfl⟩ | ⟨he, A6, c6, vs6, rfl, hv6, rfl⟩) <;> dsimp only [List.cons_append, List.nil_append]
    · repeat first | refine W_pure TOk (by rfl) (by first | trivial | (simp only [okI, and_true, true_and, and_self] <;> omega) | omega) ?_
      refine W_alloc (cs := [_, _]) TOk (by rfl) (by rfl) (fun b7 => ?_)
      repeat first | refine W_seq ?_ | refine W_region (by rfl) ?_ | refine W_opsnil ?_ | refine W_pure TOk (by rfl) (by first | trivial | (simp only [okI, and_true, true_and, and_self] <;> omega) | omega) ?_ | refine W_load_boxN 3 TOk (by rfl) (by rfl) (by rfl) (by rfl) (by rfl) ?_ | (refine W_store_box 0 TOk (by rfl) (by rfl) (by rfl) (by rfl) (by rfl) (by rfl) ?_; dsimp only [setL, putL, vcells])
      refine W_call _ (by rfl) Try.call53 (by rfl) (fun w1 hw => RCut_c w1 A0 c0 xss (hl.below hw.below) hc (by omega) fl fc tl tc kd) ?_
      rintro _ _ (⟨_, rfl, rfl⟩ | ⟨h, _⟩)
      rotate_left
      · exact absurd h he
      dsimp only [List.cons_append, List.nil_append]
      repeat first | refine W_pure TOk (by rfl) (by first | trivial | (simp only [okI, and_true, true_and, and_self] <;> omega) | omega) ?_
      refine W_alloc (cs := [_, _]) TOk (by rfl) (by rfl) (fun b10 => ?_)
      repeat first | refine W_seq ?_ | refine W_region (by rfl) ?_ | refine W_opsnil ?_ | refine W_pure TOk (by rfl) (by first | trivial | (simp only [okI, and_true, true_and, and_self] <;> omega) | omega) ?_ | (refine W_store_box 0 TOk (by rfl) (by rfl) (by rfl) (by rfl) (by rfl) (by rfl) ?_; dsimp only [setL, putL, vcells])
      refine W_dec 34 (by rfl) (fun _ => ?_) (fun h => by simp at h)
      repeat first | refine W_pure TOk (by rfl) (by first | trivial | (simp only [okI, and_true, true_and, and_self] <;> omega) | omega) ?_ | refine W_on (by rfl) (by rfl) (by rfl) ?_ | refine W_load_boxN 0 TOk (by rfl) (by rfl) (by rfl) (by rfl) (by rfl) ?_ | refine W_load_boxN 1 TOk (by rfl) (by rfl) (by rfl) (by rfl) (by rfl) ?_
      refine W_dec 39 (by rfl) (fun _ => ?_) (fun h => by simp at h)
      refine W_callV (by rfl) Try.call50 (by rfl) (fun w1 hw => Same_c w1 none none 0 0 [] [] (RowsAt.nil _ _) (RowsAt.nil _ _) (by decide) (by decide)) ?_
      repeat first | refine W_pure TOk (by rfl) (by first | trivial | (simp only [okI, and_true, true_and, and_self] <;> omega) | omega) ?_ | refine W_on (by rfl) (by rfl) (by rfl) ?_
      refine W_dec 44 (by rfl) (fun _ => ?_) (fun h => by simp at h)
      refine W_callV (by rfl) Try.call50 (by rfl) (fun w1 hw => Same_c w1 A5 A0 c5 c0 xss xss (rows_of hw.hp 2 3 rfl rfl hv5) (hl.below hw.below) (by omega) (by omega)) ?_
      repeat first | refine W_pure TOk (by rfl) (by first | trivial | (simp only [okI, and_true, true_and, and_self] <;> omega) | omega) ?_
      refine W_dec 49 (by rfl) (fun _ => ?_) (fun h => by simp at h)
      repeat first | refine W_on (by rfl) (by rfl) (by rfl) ?_
      refine W_callV (by rfl) Try.call51 (by rfl) (fun w1 hw => Awake13_c w1) ?_
      repeat first | refine W_opsnil ?_ | refine W_pure TOk (by rfl) (by first | trivial | (simp only [okI, and_true, true_and, and_self] <;> omega) | omega) ?_
      exact W_retF (vs := [_]) ⟨rfl, trivial⟩ (Ent.nil _) ⟨rfl, rfl⟩
    · repeat first | refine W_pure TOk (by rfl) (by first | trivial | (simp only [okI, and_true, true_and, and_self] <;> omega) | omega) ?_
      refine W_alloc (cs := [_, _]) TOk (by rfl) (by rfl) (fun b7 => ?_)
      repeat first | refine W_seq ?_ | refine W_region (by rfl) ?_ | refine W_opsnil ?_ | refine W_pure TOk (by rfl) (by first | trivial | (simp only [okI, and_true, true_and, and_self] <;> omega) | omega) ?_ | refine W_load_boxN 5 TOk (by rfl) (by rfl) (by rfl) (by rfl) (by rfl) ?_ | (refine W_store_box 0 TOk (by rfl) (by rfl) (by rfl) (by rfl) (by rfl) (by rfl) ?_; dsimp only [setL, putL, vcells])
      refine W_call _ (by rfl) Try.call53 (by rfl) (fun w1 hw => RCut_c w1 A0 c0 xss (hl.below hw.below) hc (by omega) fl fc tl tc kd) ?_
      rintro _ _ (⟨h, _⟩ | ⟨_, A9, c9, vs9, rfl, hv9, rfl⟩)
      · exact absurd he h
      dsimp only [List.cons_append, List.nil_append]
      repeat first | refine W_pure TOk (by rfl) (by first | trivial | (simp only [okI, and_true, true_and, and_self] <;> omega) | omega) ?_
      refine W_alloc (cs := [_, _]) TOk (by rfl) (by rfl) (fun b10 => ?_)
      repeat first | refine W_seq ?_ | refine W_region (by rfl) ?_ | refine W_opsnil ?_ | refine W_pure TOk (by rfl) (by first | trivial | (simp only [okI, and_true, true_and, and_self] <;> omega) | omega) ?_ | refine W_on (by rfl) (by rfl) (by rfl) ?_ | refine W_load_boxN 0 TOk (by rfl) (by rfl) (by rfl) (by rfl) (by rfl) ?_ | refine W_load_boxN 3 TOk (by rfl) (by rfl) (by rfl) (by rfl) (by rfl) ?_ | (refine W_store_box 0 TOk (by rfl) (by rfl) (by rfl) (by rfl) (by rfl) (by rfl) ?_; dsimp only [setL, putL, vcells])
      obtain ⟨hcs1, hcs2⟩ := cut_small (regOk he).1
      generalize cutS xss kd (regA fl fc tl tc) (regB fl fc tl tc) = R at *
      refine W_dec 34 (by rfl) (fun _ => ?_) (fun h => by simp at h)
      refine W_dec 39 (by rfl) (fun _ => ?_) (fun h => by simp at h)
      repeat first | refine W_pure TOk (by rfl) (by first | trivial | (simp only [okI, and_true, true_and, and_self] <;> omega) | omega) ?_ | refine W_on (by rfl) (by rfl) (by rfl) ?_
      refine W_callV (by rfl) Try.call50 (by rfl) (fun w1 hw => Same_c w1 A6 A9 c6 c9 R.1 R.1 (rows_of hw.hp 4 5 rfl rfl hv6) (rows_of hw.hp 1 2 rfl rfl hv9) (by omega) (by omega)) ?_
      repeat first | refine W_pure TOk (by rfl) (by first | trivial | (simp only [okI, and_true, true_and, and_self] <;> omega) | omega) ?_
      refine W_dec 44 (by rfl) (fun _ => ?_) (fun h => by simp at h)
      repeat first | refine W_pure TOk (by rfl) (by first | trivial | (simp only [okI, and_true, true_and, and_self] <;> omega) | omega) ?_ | refine W_on (by rfl) (by rfl) (by rfl) ?_
      refine W_callV (by rfl) Try.call50 (by rfl) (fun w1 hw => Same_c w1 A5 A0 c5 c0 xss xss (rows_of hw.hp 6 7 rfl rfl hv5) (hl.below hw.below) (by omega) (by omega)) ?_
      repeat first | refine W_pure TOk (by rfl) (by first | trivial | (simp only [okI, and_true, true_and, and_self] <;> omega) | omega) ?_
      refine W_dec 49 (by rfl) (fun _ => ?_) (fun h => by simp at h)
      repeat first | refine W_on (by rfl) (by rfl) (by rfl) ?_
      refine W_callV (by rfl) Try.call51 (by rfl) (fun w1 hw => Awake13_c w1) ?_
      repeat first | refine W_opsnil ?_ | refine W_pure TOk (by rfl) (by first | trivial | (simp only [okI, and_true, true_and, and_self] <;> omega) | omega) ?_
      exact W_retF (vs := [_]) ⟨rfl, trivial⟩ (Ent.nil _) ⟨rfl, rfl⟩
end Go.Proofs.Ytdfibmbedjpcgaa
