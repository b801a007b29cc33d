/- OperTakes: what is taken, by the reference, and of its own. -/
import Derived.Test.YtdfibmbedjpcgaaO11
import Derived.Test.YtdfibmbedjpcgaaV4
set_option linter.unusedVariables false
set_option linter.unusedSimpArgs false
namespace Go.Proofs.Ytdfibmbedjpcgaa
open Go Go.RowKit Eng Ls
attribute [local irreducible] Eng.W

theorem take_small {L : List (List Int)} {fl fc tl tc kd : Int} (he : regE L fl fc tl tc kd = 0) : (takeS L fl fc tl tc kd).length ≤ L.length ∧ tot (takeS L fl fc tl tc kd) ≤ tot L := by
  have h := (regOk he).1
  have h1 := h.le
  have h2 := h.lt
  unfold takeS
  refine ⟨by rw [gathS_length]; unfold rgN; omega, ?_⟩
  exact gathS_tot (fun x f t h1 h2 => by rw [cutIn_len h1 h2]; omega) L kd _ _ _ (by unfold rgN; omega)
set_option maxHeartbeats 4000000 in
theorem OperTakes_c (w : World) (A0 : Option Addr) (c0 : Nat) (xss : List (List Int)) (hl : RowsAt w A0 xss) (hb : xss.length ≤ 300 → tot xss ≤ 36028797018963968) (fl fc tl tc kd : Int) :
    Val Try.prog 6 [.slice A0 xss.length c0, rgV fl fc tl tc kd] w (.bool true) := by
  refine enterF Try.func6 rfl Try.ntmps6 rfl rfl ?_
  repeat first | refine W_seq ?_ | refine W_region (by rfl) ?_
  refine W_box (cs := [_, _, _, _, _]) (by rfl) (by rfl) (by rfl) (fun b3 => ?_)
  repeat first | refine W_seq ?_ | refine W_region (by rfl) ?_ | refine W_opsnil ?_ | refine W_pure TOk (by rfl) (by first | trivial | (simp only [okI, and_true, true_and, and_self] <;> omega) | omega) ?_
  refine W_callV (by rfl) Try.call45 (by rfl) (fun w1 hw => Fit_c w1 A0 c0 xss (hl.below hw.below) hb) ?_
  repeat first | refine W_opsnil ?_ | refine W_pure TOk (by rfl) (by first | trivial | (simp only [okI, and_true, true_and, and_self] <;> omega) | omega) ?_
  refine W_dec 14 (by rfl) (fun hs => ?_) (fun hs => ?_)
  · repeat first | refine W_seq ?_ | refine W_region (by rfl) ?_ | refine W_opsnil ?_ | refine W_pure TOk (by rfl) (by first | trivial | (simp only [okI, and_true, true_and, and_self] <;> omega) | omega) ?_ | refine W_cond_t (by rfl) ?_
    exact W_retF (vs := [_]) ⟨rfl, trivial⟩ (Ent.nil _) ⟨rfl, rfl⟩
  · have hsm : small xss = true ∧ plainL xss = true := by simpa using hs
    have hsm2 : xss.length ≤ 300 ∧ runes xss ≤ 3000 := by simpa [small] using hsm.1
    have hru : runes xss = xss.length - 1 + tot xss := rfl
    repeat first | refine W_seq ?_ | refine W_skip ?_ | refine W_region (by rfl) ?_ | refine W_pure TOk (by rfl) (by first | trivial | (simp only [okI, and_true, true_and, and_self] <;> omega) | omega) ?_ | refine W_cond_f (by rfl) ?_
    refine W_call _ (by rfl) Try.call46 (by rfl) (fun w1 hw => Twin_c w1 A0 c0 xss (hl.below hw.below) (by omega)) ?_; rintro _ _ ⟨A5, c5, vs5, rfl, hv5, rfl⟩; dsimp only [List.cons_append, List.nil_append]
    repeat first | refine W_seq ?_ | refine W_region (by rfl) ?_ | refine W_opsnil ?_ | refine W_pure TOk (by rfl) (by first | trivial | (simp only [okI, and_true, true_and, and_self] <;> omega) | omega) ?_ | refine W_load_boxN 2 TOk (by rfl) (by rfl) (by rfl) (by rfl) (by rfl) ?_
    refine W_call _ (by rfl) Try.call47 (by rfl) (fun w1 hw => Take_c w1 A5 c5 xss (rows_of hw.hp 0 1 rfl rfl hv5) (by omega) fl fc tl tc kd) ?_
    rintro _ _ (⟨he, rfl, rfl⟩ | ⟨he, A6, c6, vs6, rfl, hv6, rfl⟩) <;> dsimp only [List.cons_append, List.nil_append]
    · repeat first | refine W_pure TOk (by rfl) (by first | trivial | (simp only [okI, and_true, true_and, and_self] <;> omega) | omega) ?_
      refine W_alloc (cs := [_, _]) TOk (by rfl) (by rfl) (fun b6 => ?_)
      repeat first | refine W_seq ?_ | refine W_region (by rfl) ?_ | refine W_opsnil ?_ | refine W_pure TOk (by rfl) (by first | trivial | (simp only [okI, and_true, true_and, and_self] <;> omega) | omega) ?_ | refine W_load_boxN 3 TOk (by rfl) (by rfl) (by rfl) (by rfl) (by rfl) ?_ | (refine W_store_box 0 TOk (by rfl) (by rfl) (by rfl) (by rfl) (by rfl) (by rfl) ?_; dsimp only [setL, putL, vcells])
      refine W_call _ (by rfl) Try.call48 (by rfl) (fun w1 hw => RTake_c w1 A0 c0 xss (hl.below hw.below) (by omega) fl fc tl tc kd) ?_
      rintro _ _ (⟨_, rfl, rfl⟩ | ⟨h, _⟩)
      rotate_left
      · exact absurd h he
      dsimp only [List.cons_append, List.nil_append]
      repeat first | refine W_pure TOk (by rfl) (by first | trivial | (simp only [okI, and_true, true_and, and_self] <;> omega) | omega) ?_
      refine W_alloc (cs := [_, _]) TOk (by rfl) (by rfl) (fun b8 => ?_)
      repeat first | refine W_seq ?_ | refine W_region (by rfl) ?_ | refine W_opsnil ?_ | refine W_pure TOk (by rfl) (by first | trivial | (simp only [okI, and_true, true_and, and_self] <;> omega) | omega) ?_ | (refine W_store_box 0 TOk (by rfl) (by rfl) (by rfl) (by rfl) (by rfl) (by rfl) ?_; dsimp only [setL, putL, vcells])
      refine W_dec 32 (by rfl) (fun h => by simp at h) (fun _ => ?_)
      repeat first | refine W_on (by rfl) (by rfl) (by rfl) ?_ | refine W_load_boxN 0 TOk (by rfl) (by rfl) (by rfl) (by rfl) (by rfl) ?_ | refine W_load_boxN 1 TOk (by rfl) (by rfl) (by rfl) (by rfl) (by rfl) ?_
      refine W_callV (by rfl) Try.call49 (by rfl) (fun w1 hw => RegSame_c w1 0 0 none none 0 0 [] [] (RowsAt.nil _ _) (RowsAt.nil _ _) (by decide) (by decide)) ?_
      repeat first | refine W_seq ?_ | refine W_skip ?_ | refine W_block ?_ | refine W_region (by rfl) ?_ | refine W_opsnil ?_ | refine W_pure TOk (by rfl) (by first | trivial | (simp only [okI, and_true, true_and, and_self] <;> omega) | omega) ?_ | refine W_on (by rfl) (by rfl) (by rfl) ?_ | refine W_cond_f (by rfl) ?_
      refine W_dec 37 (by rfl) (fun h => by simp at h) (fun _ => ?_)
      refine W_loop (ι := Nat × List (List Int)) (fun q => [(0, .slice A0 xss.length c0), (5, .slice A5 xss.length c5), (6, .pointer (some ⟨b6, 0, none⟩)), (10, .int .i64 (q.1 : Nat))]) (fun q => [box b6 54 [.int .i64 0, .slice none ([] : List (List Int)).length 0], own 48 1 none ([] : List (List Int)).length 0 ([] : List Value), rowsA ([] : List Value) q.2, own 48 1 A5 xss.length c5 vs5, rowsA vs5 xss]) (fun q => q.1 ≤ ([] : List (List Int)).length ∧ q.2.length = ([] : List (List Int)).length) (fun q => ([] : List (List Int)).length - q.1) (0, ([] : List (List Int))) ⟨by dsimp only; omega, rfl⟩ ⟨rfl, rfl, rfl, rfl, trivial⟩ (((Ent.sel [1, 1, 1] _ (by rfl))).trans (Ent.cons _ ((Ent.rowsA_nil _).trans (Ent.own_zero _ _ _ _)))) ?_
      rintro ⟨i, ys⟩ ⟨hi, hys⟩
      dsimp only at hi hys ⊢
      try dsimp only [List.length_nil] at hi hys
      repeat first | refine W_seq ?_ | refine W_exit (by rfl) ?_ | refine W_region (by rfl) ?_ | refine W_opsnil ?_ | refine W_pure TOk (by rfl) (by first | trivial | (simp only [okI, and_true, true_and, and_self] <;> omega) | omega) ?_ | refine W_cond_f (by rfl) ?_ | refine W_load_box 0 TOk (by rfl) (by rfl) (by rfl) (by rfl) (by rfl) ?_
      refine W_ent (Ent.sel [3, 3] _ (by rfl)) ?_
      refine W_callV (by rfl) Try.call50 (by rfl) (fun w1 hw => Same_c w1 A5 A0 c5 c0 xss xss (rows_of hw.hp 0 1 rfl rfl hv5) (hl.below hw.below) (by omega) (by omega)) ?_
      repeat first | refine W_pure TOk (by rfl) (by first | trivial | (simp only [okI, and_true, true_and, and_self] <;> omega) | omega) ?_
      refine W_dec 65 (by rfl) (fun _ => ?_) (fun h => by simp at h)
      repeat first | refine W_on (by rfl) (by rfl) (by rfl) ?_
      refine W_callV (by rfl) Try.call51 (by rfl) (fun w1 hw => Awake13_c w1) ?_
      repeat first | refine W_opsnil ?_ | refine W_pure TOk (by rfl) (by first | trivial | (simp only [okI, and_true, true_and, and_self] <;> omega) | omega) ?_
      exact W_retF (vs := [_]) ⟨rfl, trivial⟩ (Ent.nil _) ⟨rfl, rfl⟩
    · repeat first | refine W_pure TOk (by rfl) (by first | trivial | (simp only [okI, and_true, true_and, and_self] <;> omega) | omega) ?_
      refine W_alloc (cs := [_, _]) TOk (by rfl) (by rfl) (fun b6 => ?_)
      repeat first | refine W_seq ?_ | refine W_region (by rfl) ?_ | refine W_opsnil ?_ | refine W_pure TOk (by rfl) (by first | trivial | (simp only [okI, and_true, true_and, and_self] <;> omega) | omega) ?_ | refine W_load_boxN 5 TOk (by rfl) (by rfl) (by rfl) (by rfl) (by rfl) ?_ | (refine W_store_box 0 TOk (by rfl) (by rfl) (by rfl) (by rfl) (by rfl) (by rfl) ?_; dsimp only [setL, putL, vcells])
      refine W_call _ (by rfl) Try.call48 (by rfl) (fun w1 hw => RTake_c w1 A0 c0 xss (hl.below hw.below) (by omega) fl fc tl tc kd) ?_
      rintro _ _ (⟨h, _⟩ | ⟨_, A9, c9, vs9, rfl, hv9, rfl⟩)
      · exact absurd he h
      dsimp only [List.cons_append, List.nil_append]
      repeat first | refine W_pure TOk (by rfl) (by first | trivial | (simp only [okI, and_true, true_and, and_self] <;> omega) | omega) ?_
      refine W_alloc (cs := [_, _]) TOk (by rfl) (by rfl) (fun b8 => ?_)
      repeat first | refine W_seq ?_ | refine W_region (by rfl) ?_ | refine W_opsnil ?_ | refine W_pure TOk (by rfl) (by first | trivial | (simp only [okI, and_true, true_and, and_self] <;> omega) | omega) ?_ | refine W_on (by rfl) (by rfl) (by rfl) ?_ | refine W_load_boxN 0 TOk (by rfl) (by rfl) (by rfl) (by rfl) (by rfl) ?_ | refine W_load_boxN 3 TOk (by rfl) (by rfl) (by rfl) (by rfl) (by rfl) ?_ | (refine W_store_box 0 TOk (by rfl) (by rfl) (by rfl) (by rfl) (by rfl) (by rfl) ?_; dsimp only [setL, putL, vcells])
      obtain ⟨hcs1, hcs2⟩ := take_small he
      generalize takeS xss fl fc tl tc kd = R at *
      refine W_dec 32 (by rfl) (fun h => by simp at h) (fun _ => ?_)
      refine W_callV (by rfl) Try.call49 (by rfl) (fun w1 hw => RegSame_c w1 kd kd A6 A9 c6 c9 R R (rows_of hw.hp 4 5 rfl rfl hv6) (rows_of hw.hp 1 2 rfl rfl hv9) (by omega) (by omega)) ?_
      repeat first | refine W_opsnil ?_ | refine W_pure TOk (by rfl) (by first | trivial | (simp only [okI, and_true, true_and, and_self] <;> omega) | omega) ?_ | refine W_on (by rfl) (by rfl) (by rfl) ?_
      refine W_dec 37 (by rfl) (fun h => by simp at h) (fun _ => ?_)
      repeat first | refine W_seq ?_ | refine W_skip ?_ | refine W_block ?_ | refine W_region (by rfl) ?_ | refine W_opsnil ?_ | refine W_pure TOk (by rfl) (by first | trivial | (simp only [okI, and_true, true_and, and_self] <;> omega) | omega) ?_ | refine W_cond_f (by rfl) ?_
      refine W_loop (ι := Nat × List (List Int)) (fun q => [(0, .slice A0 xss.length c0), (5, .slice A5 xss.length c5), (6, .pointer (some ⟨b6, 0, none⟩)), (10, .int .i64 (q.1 : Nat))]) (fun q => [box b6 54 [.int .i64 kd, .slice A6 R.length c6], own 48 1 A6 R.length c6 vs6, rowsA vs6 q.2, own 48 1 A5 xss.length c5 vs5, rowsA vs5 xss]) (fun q => q.1 ≤ R.length ∧ q.2.length = R.length) (fun q => R.length - q.1) (0, R) ⟨by dsimp only; omega, rfl⟩ ⟨rfl, rfl, rfl, rfl, trivial⟩ ((Ent.sel [3, 3, 3, 3, 3] _ (by rfl))) ?_
      rintro ⟨i, ys⟩ ⟨hi, hys⟩
      dsimp only at hi hys ⊢
      repeat first | refine W_seq ?_ | refine W_region (by rfl) ?_ | refine W_opsnil ?_ | refine W_pure TOk (by rfl) (by first | trivial | (simp only [okI, and_true, true_and, and_self] <;> omega) | omega) ?_ | refine W_load_box 0 TOk (by rfl) (by rfl) (by rfl) (by rfl) (by rfl) ?_
      refine W_cond_d (by rfl) (fun hlt => ?_) (fun hge => ?_)
      · have hiv : i < vs6.length := by omega
        obtain ⟨v, hv⟩ : ∃ v, vs6[i]? = some v := ⟨_, List.getElem?_eq_getElem hiv⟩
        obtain ⟨r0, hr0⟩ : ∃ r, ys[i]? = some r := ⟨_, List.getElem?_eq_getElem (by omega)⟩
        refine W_pick 2 (by rfl) ?_
        refine W_ent (rowsA_split vs6 ys (by omega) hv hr0 _) ?_
        refine W_rowA (fun A c hvA => ?_)
        subst hvA
        repeat first | refine W_seq ?_ | refine W_skip ?_ | refine W_block ?_ | refine W_region (by rfl) ?_ | refine W_opsnil ?_ | refine W_pure TOk (by rfl) (by first | trivial | (simp only [okI, and_true, true_and, and_self] <;> omega) | omega) ?_
        refine W_loop (ι := Nat × List Int) (fun q => [(0, .slice A0 xss.length c0), (5, .slice A5 xss.length c5), (6, .pointer (some ⟨b6, 0, none⟩)), (10, .int .i64 (i : Nat)), (11, .int .i64 (q.1 : Nat))]) (fun q => [own 21 1 A r0.length c (i32s q.2), rowsA (vs6.take i) (ys.take i), rowsA (vs6.drop (i + 1)) (ys.drop (i + 1)), box b6 54 [.int .i64 kd, .slice A6 R.length c6], own 48 1 A6 R.length c6 vs6, own 48 1 A5 xss.length c5 vs5, rowsA vs5 xss])
          (fun q => q.1 ≤ r0.length ∧ q.2.length = r0.length) (fun q => r0.length - q.1) (0, r0) ⟨by dsimp only; omega, rfl⟩ ⟨rfl, rfl, rfl, rfl, rfl, trivial⟩ (Ent.refl _) ?_
        rintro ⟨k, r⟩ ⟨hk, hr⟩
        dsimp only at hk hr ⊢
        refine W_ownlen 0 (by rfl) (fun hq1 hq2 hq3 => ?_)
        unfold maxLen at hq3
        repeat first | refine W_seq ?_ | refine W_region (by rfl) ?_ | refine W_pure TOk (by rfl) (by first | trivial | (simp only [okI, and_true, true_and, and_self] <;> omega) | omega) ?_ | refine W_load_box 3 TOk (by rfl) (by rfl) (by rfl) (by rfl) (by rfl) ?_
        refine W_index TOk (by rfl) (by rfl) (by rfl) (by first | exact es48 | exact es22 | exact es136 | exact es150 | exact es223 | exact es29 | exact es132 | exact es207) (by omega) (by omega) (fun w1 hw => (hw.hp.cells 4 rfl).isSome (by omega)) ?_
        refine W_load TOk (by rfl) (by rfl) (by rfl) (fun w1 hw => (hw.hp.cells 4 rfl).elem1 (by rw [Int.toNat_natCast]; exact hv)) ?_
        repeat first | refine W_opsnil ?_ | refine W_pure TOk (by rfl) (by first | trivial | (simp only [okI, and_true, true_and, and_self] <;> omega) | omega) ?_
        refine W_cond_d (by rfl) (fun hlt2 => ?_) (fun hge2 => ?_)
        · repeat first | refine W_seq ?_ | refine W_skip ?_ | refine W_block ?_ | refine W_region (by rfl) ?_ | refine W_pure TOk (by rfl) (by first | trivial | (simp only [okI, and_true, true_and, and_self] <;> omega) | omega) ?_ | refine W_load_box 3 TOk (by rfl) (by rfl) (by rfl) (by rfl) (by rfl) ?_
          refine W_index TOk (by rfl) (by rfl) (by rfl) (by first | exact es48 | exact es22 | exact es136 | exact es150 | exact es223 | exact es29 | exact es132 | exact es207) (by omega) (by omega) (fun w1 hw => (hw.hp.cells 4 rfl).isSome (by omega)) ?_
          refine W_load TOk (by rfl) (by rfl) (by rfl) (fun w1 hw => (hw.hp.cells 4 rfl).elem1 (by rw [Int.toNat_natCast]; exact hv)) ?_
          repeat first | refine W_pure TOk (by rfl) (by first | trivial | (simp only [okI, and_true, true_and, and_self] <;> omega) | omega) ?_
          refine W_index TOk (by rfl) (by rfl) (by rfl) (by first | exact es48 | exact es22 | exact es136 | exact es150 | exact es223 | exact es29 | exact es132 | exact es207) (by omega) (by omega) (fun w1 hw => (hw.hp.cells 0 rfl).isSome (by rw [i32s_length]; omega)) ?_
          refine W_store_own 0 TOk (by rfl) ptr_at (by rfl) (by rfl) (by rfl) (by simp only [vcells, List.length_cons, List.length_nil]; omega) (by omega) (by rfl) ?_
          simp only [Int.toNat_natCast, Nat.mul_one, vcells, i32s_put, setL]
          repeat first | refine W_blk ?_ | refine W_region (by rfl) ?_ | refine W_opsnil ?_ | refine W_pure TOk (by rfl) (by first | trivial | (simp only [okI, and_true, true_and, and_self] <;> omega) | omega) ?_
          exact W_inv (k + 1, r.set k 7) ⟨by dsimp only; omega, by dsimp only; rw [List.length_set]; omega⟩ (by dsimp only; omega) ⟨rfl, rfl, rfl, rfl, rfl, trivial⟩ (Ent.refl _)
        · rw [← hr] at hv ⊢
          refine W_ent (Ent.rowA_in A c r _) ?_
          refine W_ent (rowsA_join vs6 ys (by omega) hiv _) ?_
          rw [set_same hv]
          repeat first | refine W_blk ?_ | refine W_exit (by rfl) ?_ | refine W_region (by rfl) ?_ | refine W_opsnil ?_ | refine W_pure TOk (by rfl) (by first | trivial | (simp only [okI, and_true, true_and, and_self] <;> omega) | omega) ?_
          exact W_inv (i + 1, ys.set i r) ⟨by dsimp only; omega, by dsimp only; rw [List.length_set]; omega⟩ (by dsimp only; omega) ⟨rfl, rfl, rfl, rfl, trivial⟩ (Ent.sel [1, 1, 0, 0, 0] _ (by rfl))
      · refine W_ent (Ent.sel [3, 3] _ (by rfl)) ?_
        repeat first | refine W_seq ?_ | refine W_exit (by rfl) ?_ | refine W_region (by rfl) ?_ | refine W_pure TOk (by rfl) (by first | trivial | (simp only [okI, and_true, true_and, and_self] <;> omega) | omega) ?_
        refine W_callV (by rfl) Try.call50 (by rfl) (fun w1 hw => Same_c w1 A5 A0 c5 c0 xss xss (rows_of hw.hp 0 1 rfl rfl hv5) (hl.below hw.below) (by omega) (by omega)) ?_
        repeat first | refine W_pure TOk (by rfl) (by first | trivial | (simp only [okI, and_true, true_and, and_self] <;> omega) | omega) ?_
        refine W_dec 65 (by rfl) (fun _ => ?_) (fun h => by simp at h)
        repeat first | refine W_on (by rfl) (by rfl) (by rfl) ?_
        refine W_callV (by rfl) Try.call51 (by rfl) (fun w1 hw => Awake13_c w1) ?_
        repeat first | refine W_opsnil ?_ | refine W_pure TOk (by rfl) (by first | trivial | (simp only [okI, and_true, true_and, and_self] <;> omega) | omega) ?_
        exact W_retF (vs := [_]) ⟨rfl, trivial⟩ (Ent.nil _) ⟨rfl, rfl⟩
end Go.Proofs.Ytdfibmbedjpcgaa
