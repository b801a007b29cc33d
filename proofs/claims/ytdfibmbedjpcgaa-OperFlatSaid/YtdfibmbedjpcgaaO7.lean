/- The document's Cut. -/
import Derived.Test.YtdfibmbedjpcgaaO6
import Derived.Test.YtdfibmbedjpcgaaEngE
set_option linter.unusedVariables false
set_option linter.unusedSimpArgs false
namespace Go.Proofs.Ytdfibmbedjpcgaa
open Go Go.RowKit Eng Ls
attribute [local irreducible] Eng.W

def blkG (L : List (List Int)) (kd : Int) (a b : Nat × Nat) (n : Nat) : List (List Int) := if kd = 2 then gathS cutOut L kd a b n else []
theorem take_cut (L : List (List Int)) (f : Nat) : (L.drop 0).take (f - 0) = L.take f := by rw [List.drop_zero, Nat.sub_zero]
theorem drop_cut (L : List (List Int)) (t : Nat) : (L.drop t).take (L.length - t) = L.drop t := by rw [List.take_of_length_le (by simp)]
theorem sgl_flat (G : List (List Int)) (x : List Int) : (G ++ [x]).flatten = G.flatten ++ x := by simp
set_option maxRecDepth 8000 in
set_option maxHeartbeats 4000000 in
theorem RCut_c (w : World) (A : Option Addr) (c0 : Nat) (L : List (List Int)) (hl : RowsAt w A L) (hc : L.length ≤ c0) (hb : L.length + tot L ≤ 268435456) (fl fc tl tc kd : Int) :
    Fresh Try.prog 53 [.slice A L.length c0, rgV fl fc tl tc kd] w (CutR L fl fc tl tc kd) := by
  refine enterF Try.func53 rfl Try.ntmps53 rfl rfl ?_
  repeat first | refine W_seq ?_ | refine W_region (by rfl) ?_
  refine W_box (cs := [_, _, _, _, _]) (by rfl) (by rfl) (by rfl) (fun b3 => ?_)
  repeat first | refine W_pure TOk (by rfl) (by first | trivial | (simp only [okI, and_true, true_and, and_self] <;> omega) | omega) ?_
  refine W_alloc (cs := [_, _]) TOk (by rfl) (by rfl) (fun b5 => ?_)
  repeat first | refine W_seq ?_ | refine W_region (by rfl) ?_ | refine W_opsnil ?_ | refine W_pure TOk (by rfl) (by first | trivial | (simp only [okI, and_true, true_and, and_self] <;> omega) | omega) ?_ | refine W_load_boxN 1 TOk (by rfl) (by rfl) (by rfl) (by rfl) (by rfl) ?_
  refine W_callV (by rfl) Try.call116 (by rfl) (fun w1 hw => there_c w1 A c0 L (hl.below hw.below) (by omega) fl fc tl tc kd) ?_
  repeat first | refine W_seq ?_ | refine W_region (by rfl) ?_ | refine W_opsnil ?_ | refine W_pure TOk (by rfl) (by first | trivial | (simp only [okI, and_true, true_and, and_self] <;> omega) | omega) ?_
  refine W_cond_nd (by rfl) (fun hne => ?_) (fun he => ?_)
  · repeat first | refine W_seq ?_ | refine W_region (by rfl) ?_ | refine W_opsnil ?_ | refine W_pure TOk (by rfl) (by first | trivial | (simp only [okI, and_true, true_and, and_self] <;> omega) | omega) ?_ | (refine W_store_box 0 TOk (by rfl) (by rfl) (by rfl) (by rfl) (by rfl) (by rfl) ?_; dsimp only [setL, putL, vcells])
    exact W_retF (vs := [_, _, _]) ⟨rfl, rv_box 0 TOk rfl rfl rfl, rfl, trivial⟩ (M := []) (Ent.nil _) (.inl ⟨hne, rfl, rfl⟩)
  · obtain ⟨hok, heq⟩ := regOk he
    repeat first | refine W_seq ?_ | refine W_skip ?_ | refine W_region (by rfl) ?_ | refine W_load_boxN 1 TOk (by rfl) (by rfl) (by rfl) (by rfl) (by rfl) ?_
    refine W_callV (by rfl) Try.call117 (by rfl) (fun w1 hw => ends_c w1 L fl fc tl tc kd he) ?_
    have hpart := fun (w1 : World) (hw : Below w.heap.size w w1) (i : Nat) (g1 : (regA fl fc tl tc).1 ≤ i) (g2 : i ≤ (regB fl fc tl tc).1) => parted_c w1 A c0 L (hl.below hw) (by omega) fl fc tl tc kd he i g1 g2
    unfold CutR
    generalize regA fl fc tl tc = a at *
    generalize regB fl fc tl tc = b at *
    rw [he]
    have hkd := hok.kd
    have hle := hok.le
    have hlt := hok.lt
    have hcut := tot_cut L (f := a.1) (t := b.1 + 1) (by omega) (by omega)
    have htl : (L.take a.1).length = a.1 := by rw [List.length_take]; omega
    have hdl : (L.drop (b.1 + 1)).length = L.length - (b.1 + 1) := List.length_drop ..
    have hca := hok.ca
    have hcb := hok.cb
    have hra := rowN_len (xss := L) (i := a.1) (by omega)
    have hrb := rowN_len (xss := L) (i := b.1) (by omega)
    repeat first | refine W_pure TOk (by rfl) (by first | trivial | (simp only [okI, and_true, true_and, and_self] <;> omega) | omega) ?_
    refine W_alloc (cs := [_, _]) TOk (by rfl) (by rfl) (fun b8 => ?_)
    refine W_alloc (cs := [_, _]) TOk (by rfl) (by rfl) (fun b9 => ?_)
    repeat first | refine W_seq ?_ | refine W_region (by rfl) ?_ | refine W_opsnil ?_ | refine W_pure TOk (by rfl) (by first | trivial | (simp only [okI, and_true, true_and, and_self] <;> omega) | omega) ?_ | refine W_load_box 1 TOk (by rfl) (by rfl) (by rfl) (by rfl) (by rfl) ?_ | (refine W_store_box 0 TOk (by rfl) (by rfl) (by rfl) (by rfl) (by rfl) (by rfl) ?_; dsimp only [setL, putL, vcells]) | (refine W_store_box 1 TOk (by rfl) (by rfl) (by rfl) (by rfl) (by rfl) (by rfl) ?_; dsimp only [setL, putL, vcells])
    simp only [Int.toNat_natCast, Int.toNat_zero, Nat.sub_zero]
    refine W_call (vs := [.slice (cutA A 0 c0 1) ((L.drop 0).take (a.1 - 0)).length c0]) _ (by rfl) Try.call46 ?_ (fun w1 hw => Twin_c w1 (cutA A 0 c0 1) c0 ((L.drop 0).take (a.1 - 0)) ((hl.below hw.below).cut 0 a.1 c0 (by omega)) (by rw [take_cut]; omega)) ?_
    · rw [take_cut, htl]; rfl
    rw [take_cut]
    rintro _ _ ⟨A1, c1, vs1, rfl, hv1, rfl⟩
    dsimp only [List.cons_append, List.nil_append]
    repeat first | refine W_seq ?_ | refine W_block ?_ | refine W_region (by rfl) ?_ | refine W_opsnil ?_ | refine W_pure TOk (by rfl) (by first | trivial | (simp only [okI, and_true, true_and, and_self] <;> omega) | omega) ?_ | refine W_load_box 3 TOk (by rfl) (by rfl) (by rfl) (by rfl) (by rfl) ?_
    refine W_loop (ι := Nat × (Option Addr × Nat × List Value) × (Option Addr × Nat)) (fun ⟨n, ⟨A1, c1, vs⟩, ⟨A2, c2⟩⟩ => [(0, .slice A L.length c0), (3, .pointer (some ⟨b3, 0, none⟩)), (5, .pointer (some ⟨b5, 0, none⟩)), (8, .pointer (some ⟨b8, 0, none⟩)), (9, .pointer (some ⟨b9, 0, none⟩)), (10, .slice A1 (L.take a.1 ++ blkG L kd a b n).length c1), (11, .slice A2 (gathS cutOut L kd a b n).flatten.length c2), (12, .int .i64 ((a.1 + n : Nat) : Int))])
      (fun ⟨n, ⟨A1, c1, vs⟩, ⟨A2, c2⟩⟩ => [box b9 43 [.int .i64 (b.1 : Nat), .int .i64 (b.2 : Nat)], box b8 43 [.int .i64 (a.1 : Nat), .int .i64 (a.2 : Nat)], box b5 43 [.int .i64 0, .int .i64 0], box b3 51 [.int .i64 fl, .int .i64 fc, .int .i64 tl, .int .i64 tc, .int .i64 kd], own 48 1 A1 (L.take a.1 ++ blkG L kd a b n).length c1 vs, rowsA vs (L.take a.1 ++ blkG L kd a b n), own 21 1 A2 (gathS cutOut L kd a b n).flatten.length c2 (i32s (gathS cutOut L kd a b n).flatten)])
      (fun ⟨n, ⟨A1, c1, vs⟩, ⟨A2, c2⟩⟩ => n ≤ b.1 + 1 - a.1 ∧ vs.length = (L.take a.1 ++ blkG L kd a b n).length) (fun q => b.1 + 1 - a.1 - q.1) (0, (A1, c1, vs1), (none, 0)) ⟨by omega, ?_⟩ ⟨rfl, rfl, rfl, rfl, rfl, ?_, ?_, rfl, trivial⟩ ?_ ?_
    · rw [hv1]; unfold blkG; split <;> simp [gathS]
    · show some (Value.slice _ _ _) = some (Value.slice _ _ _)
      congr 2; unfold blkG; split <;> simp [gathS]
    · rfl
    · have e0 : L.take a.1 ++ blkG L kd a b 0 = L.take a.1 := by unfold blkG; split <;> simp [gathS]
      have e1 : (gathS cutOut L kd a b 0).flatten = [] := by simp [gathS]
      dsimp only
      rw [e0, e1]
      refine ((Ent.sel [2, 2, 2, 2, 0, 0] _ (by rfl))).trans ?_
      exact Ent.cons _ (Ent.cons _ (Ent.cons _ (Ent.cons _ (Ent.cons _ (Ent.cons _ (Ent.own_zero 21 1 none _))))))
    rintro ⟨n, ⟨A3, c3, vs⟩, ⟨A4, c4⟩⟩ ⟨hn, hvl⟩
    dsimp only at hn hvl ⊢
    have hgl := gathS_length cutOut L kd a b n
    have hgt : tot (gathS cutOut L kd a b n) ≤ tot L := gathS_tot (fun x f t h1 h2 => by rw [cutOut_len h1 h2]; omega) L kd a b n (by omega)
    have hfl := flat_len (gathS cutOut L kd a b n)
    have hbl : (blkG L kd a b n).length ≤ n := by unfold blkG; split <;> simp [gathS]
    have hal : (L.take a.1 ++ blkG L kd a b n).length = a.1 + (blkG L kd a b n).length := by rw [List.length_append, htl]
    repeat first | refine W_seq ?_ | refine W_region (by rfl) ?_ | refine W_opsnil ?_ | refine W_pure TOk (by rfl) (by first | trivial | (simp only [okI, and_true, true_and, and_self] <;> omega) | omega) ?_ | refine W_load_box 0 TOk (by rfl) (by rfl) (by rfl) (by rfl) (by rfl) ?_
    refine W_cond_d (by rfl) (fun hle2 => ?_) (fun hgt2 => ?_)
    · have hrl := rowN_len (xss := L) (i := a.1 + n) (by omega)
      have hcl := col_le kd a b (rowN L (a.1 + n)).length (a.1 + n)
      have hsu := gathS_succ cutOut L kd a b n
      repeat first | refine W_seq ?_ | refine W_skip ?_ | refine W_block ?_ | refine W_region (by rfl) ?_ | refine W_pure TOk (by rfl) (by first | trivial | (simp only [okI, and_true, true_and, and_self] <;> omega) | omega) ?_ | refine W_load_boxN 3 TOk (by rfl) (by rfl) (by rfl) (by rfl) (by rfl) ?_
      refine W_call _ (by rfl) Try.call118 (by rfl) (fun w1 hw => hpart w1 hw.below (a.1 + n) (by omega) (by omega)) ?_
      generalize colF kd a b (rowN L (a.1 + n)).length (a.1 + n) = f at *
      generalize colT kd a b (rowN L (a.1 + n)).length (a.1 + n) = t at *
      have hol := cutOut_len hcl.1 hcl.2
      rintro _ _ ⟨A5, c5, A6, c6, rfl, rfl⟩
      dsimp only [List.cons_append, List.nil_append]
      generalize rowN L (a.1 + n) = x at *
      repeat first | refine W_seq ?_ | refine W_region (by rfl) ?_ | refine W_opsnil ?_ | refine W_pure TOk (by rfl) (by first | trivial | (simp only [okI, and_true, true_and, and_self] <;> omega) | omega) ?_ | refine W_load_box 5 TOk (by rfl) (by rfl) (by rfl) (by rfl) (by rfl) ?_
      by_cases hk2 : kd = 2
      · have hb1 : blkG L kd a b (n + 1) = blkG L kd a b n ++ [cutOut x f t] := by unfold blkG; rw [if_pos hk2, if_pos hk2, hsu]
        refine W_cond_d (by rfl) (fun _ => ?_) (fun h => absurd hk2 h)
        repeat first | refine W_region (by rfl) ?_ | refine W_pure TOk (by rfl) (by first | trivial | (simp only [okI, and_true, true_and, and_self] <;> omega) | omega) ?_
        refine W_lit TOk (cs := [_]) (by rfl) (by first | exact sl48 | exact sl22 | exact sl136 | exact sl150 | exact sl223 | exact sl29 | exact sl132 | exact sl207) (by rfl) (by rfl) (by rfl) (by rfl) (fun g1 => ?_)
        refine W_append_own 7 TOk (by rfl) (by rfl) (by rfl) (by first | exact sl48 | exact sl22 | exact sl136 | exact sl150 | exact sl223 | exact sl29 | exact sl132 | exact sl207) (by rfl) (fun w1 hw => hw.hp.cells 0 rfl) (by simp [i32s_length, i64s_length]) (by first | exact i32s_one _ | exact i64s_one _ | exact one_of _ rfl) (by unfold maxLen; omega) (by omega) (fun A7 c7 => ?_); dsimp only [setL]
        repeat first | refine W_region (by rfl) ?_ | refine W_opsnil ?_ | refine W_pure TOk (by rfl) (by first | trivial | (simp only [okI, and_true, true_and, and_self] <;> omega) | omega) ?_
        refine W_append_own 9 TOk (by rfl) (by rfl) (by rfl) (by first | exact sl48 | exact sl22 | exact sl136 | exact sl150 | exact sl223 | exact sl29 | exact sl132 | exact sl207) (by rfl) (fun w1 hw => hw.hp.cells 2 rfl) (by simp [i32s_length, i64s_length]) (by first | exact i32s_one _ | exact i64s_one _ | exact one_of _ rfl) (by unfold maxLen; omega) (by omega) (fun A8 c8 => ?_); dsimp only [setL]
        repeat first | refine W_blk ?_ | refine W_region (by rfl) ?_ | refine W_opsnil ?_ | refine W_pure TOk (by rfl) (by first | trivial | (simp only [okI, and_true, true_and, and_self] <;> omega) | omega) ?_
        refine W_inv (n + 1, (A7, c7, vs ++ [.slice A6 (cutOut x f t).length c6]), (A8, c8)) ⟨by dsimp only; omega, ?_⟩ (by dsimp only; omega) ⟨rfl, rfl, rfl, rfl, rfl, ?_, ?_, rfl, trivial⟩ ?_
        · rw [hb1, ← List.append_assoc, List.length_append, List.length_append, hvl]; rfl
        · dsimp only; rw [hb1, ← List.append_assoc, List.length_append (bs := [_])]; rfl
        · dsimp only; rw [hsu, sgl_flat, @List.length_append _ (gathS cutOut L kd a b n).flatten _]; rfl
        · dsimp only
          rw [hb1, hsu, sgl_flat, ← List.append_assoc]
          refine ((Ent.sel [3, 3, 3, 3, 3, 3, 2, 2] _ (by rfl))).trans ?_
          refine Ent.cons _ (Ent.cons _ (Ent.cons _ (Ent.cons _ ?_)))
          refine (Ent.own_cast (by rw [List.length_append (bs := [_])]; rfl) rfl _).trans (Ent.cons _ ?_)
          refine (Ent.cons _ ((Ent.rowA_in A6 c6 _ _))).trans ?_
          refine (Ent.rowsA_snoc (by rw [hvl]) _ _ _).trans (Ent.cons _ ?_)
          exact Ent.own_cast (by rw [List.length_append]) (by simp [i32s]) _
      · have hb1 : blkG L kd a b (n + 1) = blkG L kd a b n := by unfold blkG; rw [if_neg hk2, if_neg hk2]
        refine W_cond_d (by rfl) (fun h => absurd h hk2) (fun _ => ?_)
        repeat first | refine W_skip ?_ | refine W_region (by rfl) ?_ | refine W_pure TOk (by rfl) (by first | trivial | (simp only [okI, and_true, true_and, and_self] <;> omega) | omega) ?_
        refine W_append_own 8 TOk (by rfl) (by rfl) (by rfl) (by first | exact sl48 | exact sl22 | exact sl136 | exact sl150 | exact sl223 | exact sl29 | exact sl132 | exact sl207) (by rfl) (fun w1 hw => hw.hp.cells 1 rfl) (by simp [i32s_length, i64s_length]) (by first | exact i32s_one _ | exact i64s_one _ | exact one_of _ rfl) (by unfold maxLen; omega) (by omega) (fun A8 c8 => ?_); dsimp only [setL]
        repeat first | refine W_blk ?_ | refine W_region (by rfl) ?_ | refine W_opsnil ?_ | refine W_pure TOk (by rfl) (by first | trivial | (simp only [okI, and_true, true_and, and_self] <;> omega) | omega) ?_
        refine W_inv (n + 1, (A3, c3, vs), (A8, c8)) ⟨by dsimp only; omega, ?_⟩ (by dsimp only; omega) ⟨rfl, rfl, rfl, rfl, rfl, ?_, ?_, rfl, trivial⟩ ?_
        · rw [hb1]; exact hvl
        · dsimp only; rw [hb1]; rfl
        · dsimp only; rw [hsu, sgl_flat, @List.length_append _ (gathS cutOut L kd a b n).flatten _]; rfl
        · dsimp only
          rw [hb1, hsu, sgl_flat]
          refine ((Ent.sel [2, 2, 2, 2, 2, 2, 2] _ (by rfl))).trans ?_
          refine Ent.cons _ (Ent.cons _ (Ent.cons _ (Ent.cons _ (Ent.cons _ (Ent.cons _ ?_)))))
          exact Ent.own_cast (by rw [List.length_append]) (by simp [i32s]) _
    · have e : n = b.1 + 1 - a.1 := by omega
      have hdt : tot (L.drop (b.1 + 1)) ≤ tot L := tot_drop L (b.1 + 1)
      subst e
      rcases (show kd = 0 ∨ kd = 1 ∨ kd = 2 by omega) with rfl | rfl | rfl
      · have ec : cutS L 0 a b = (L.take a.1 ++ [(gathS cutOut L 0 a b (b.1 + 1 - a.1)).flatten] ++ L.drop (b.1 + 1), clipS (L.take a.1 ++ [(gathS cutOut L 0 a b (b.1 + 1 - a.1)).flatten] ++ L.drop (b.1 + 1)) (a.1 : Nat) (a.2 : Nat)) := rfl
        have eb : blkG L 0 a b (b.1 + 1 - a.1) = [] := rfl
        rw [eb, List.append_nil] at hvl ⊢
        rw [ec]
        generalize gathS cutOut L 0 a b (b.1 + 1 - a.1) = G at *
        repeat first | refine W_seq ?_ | refine W_exit (by rfl) ?_ | refine W_region (by rfl) ?_ | refine W_opsnil ?_ | refine W_pure TOk (by rfl) (by first | trivial | (simp only [okI, and_true, true_and, and_self] <;> omega) | omega) ?_ | refine W_cond_t (by rfl) ?_ | refine W_load_box 3 TOk (by rfl) (by rfl) (by rfl) (by rfl) (by rfl) ?_
        refine W_lit TOk (cs := [_]) (by rfl) (by first | exact sl48 | exact sl22 | exact sl136 | exact sl150 | exact sl223 | exact sl29 | exact sl132 | exact sl207) (by rfl) (by rfl) (by rfl) (by rfl) (fun g1 => ?_)
        refine W_append_own 5 TOk (by rfl) (by rfl) (by rfl) (by first | exact sl48 | exact sl22 | exact sl136 | exact sl150 | exact sl223 | exact sl29 | exact sl132 | exact sl207) (by rfl) (fun w1 hw => hw.hp.cells 0 rfl) (by simp [i32s_length, i64s_length]) (by first | exact i32s_one _ | exact i64s_one _ | exact one_of _ rfl) (by unfold maxLen; omega) (by omega) (fun A7 c7 => ?_); dsimp only [setL]
        repeat first | refine W_seq ?_ | refine W_region (by rfl) ?_ | refine W_opsnil ?_ | refine W_pure TOk (by rfl) (by first | trivial | (simp only [okI, and_true, true_and, and_self] <;> omega) | omega) ?_ | refine W_load_box 1 TOk (by rfl) (by rfl) (by rfl) (by rfl) (by rfl) ?_
        simp only [Int.toNat_natCast]
        refine W_call (vs := [.slice (cutA A (b.1 + 1) c0 1) ((L.drop (b.1 + 1)).take (L.length - (b.1 + 1))).length (c0 - (b.1 + 1))]) _ (by rfl) Try.call46 ?_ (fun w1 hw => Twin_c w1 (cutA A (b.1 + 1) c0 1) (c0 - (b.1 + 1)) ((L.drop (b.1 + 1)).take (L.length - (b.1 + 1))) ((hl.below hw.below).cut (b.1 + 1) L.length c0 (by omega)) (by rw [drop_cut]; omega)) ?_
        · rw [drop_cut, hdl]; rfl
        rw [drop_cut]
        rintro _ _ ⟨A8, c8, vs2, rfl, hv2, rfl⟩
        dsimp only [List.cons_append, List.nil_append]
        refine W_rowsOne 1 (by rfl) hv2 (fun h1c => ?_)
        refine W_append_own 7 TOk (by rfl) (by rfl) (by rfl) sl22 (by rfl) (fun w1 hw => hw.hp.cells 0 rfl) (by rw [hv2, Nat.mul_one]) h1c (by unfold maxLen; omega) (by omega) (fun A9 c9 => ?_); dsimp only [setL]
        refine W_ent ((Ent.sel [7, 7, 7, 1, 2, 2, 2, 2] _ (by rfl))) ?_
        refine W_ent (Ent.cons _ (Ent.cons _ (Ent.rowA_in A4 c4 G.flatten _))) ?_
        refine W_ent (Ent.cons _ (Ent.rowsA_snoc hvl _ _ _)) ?_
        refine W_ent (Ent.cons _ (Ent.rowsA_app (by rw [List.length_append, List.length_append, hvl]; rfl) _)) ?_
        have hout : (L.take a.1 ++ [G.flatten] ++ L.drop (b.1 + 1)).length = (L.take a.1).length + 1 + (L.drop (b.1 + 1)).length := by rw [List.length_append, List.length_append]; rfl
        have htot : tot (L.take a.1 ++ [G.flatten] ++ L.drop (b.1 + 1)) ≤ 2 * tot L := by rw [tot_append, tot_append]; simp only [tot]; omega
        have hvo : (vs ++ [Value.slice A4 G.flatten.length c4] ++ vs2).length = (L.take a.1 ++ [G.flatten] ++ L.drop (b.1 + 1)).length := by rw [hout, List.length_append, List.length_append, hvl, hv2]; rfl
        rw [← hout]
        generalize L.take a.1 ++ [G.flatten] ++ L.drop (b.1 + 1) = O at *
        generalize vs ++ [Value.slice A4 G.flatten.length c4] ++ vs2 = vo at *
        repeat first | refine W_seq ?_ | refine W_skip ?_ | refine W_region (by rfl) ?_ | refine W_opsnil ?_ | refine W_pure TOk (by rfl) (by first | trivial | (simp only [okI, and_true, true_and, and_self] <;> omega) | omega) ?_ | refine W_cond_f (by rfl) ?_ | refine W_load_box 5 TOk (by rfl) (by rfl) (by rfl) (by rfl) (by rfl) ?_ | refine W_load_boxN 3 TOk (by rfl) (by rfl) (by rfl) (by rfl) (by rfl) ?_
        refine W_callV (by rfl) Try.call57 (by rfl) (fun w1 hw => RClip_c w1 A9 c9 O (rows_of hw.hp 0 1 rfl rfl hvo) (by omega) a.1 a.2) ?_
        repeat first | refine W_opsnil ?_ | refine W_pure TOk (by rfl) (by first | trivial | (simp only [okI, and_true, true_and, and_self] <;> omega) | omega) ?_ | (refine W_store_box 4 TOk (by rfl) (by rfl) (by rfl) (by rfl) (by rfl) (by rfl) ?_; dsimp only [setL, putL, vcells])
        exact W_retF (vs := [_, _, _]) ⟨rfl, rv_box 4 TOk rfl rfl rfl, rfl, trivial⟩ (M := [own 48 1 A9 O.length c9 vo, rowsA vo O]) (Ent.sel [0, 0] _ (by rfl)) (.inr ⟨rfl, A9, c9, vo, rfl, hvo, rfl⟩)
      · have ec : cutS L 1 a b = (orOne (L.take a.1 ++ L.drop (b.1 + 1)), (min a.1 ((orOne (L.take a.1 ++ L.drop (b.1 + 1))).length - 1), firstS (rowN (orOne (L.take a.1 ++ L.drop (b.1 + 1))) (min a.1 ((orOne (L.take a.1 ++ L.drop (b.1 + 1))).length - 1))))) := rfl
        have eb : blkG L 1 a b (b.1 + 1 - a.1) = [] := rfl
        rw [eb, List.append_nil] at hvl ⊢
        rw [ec]
        repeat first | refine W_seq ?_ | refine W_skip ?_ | refine W_exit (by rfl) ?_ | refine W_region (by rfl) ?_ | refine W_opsnil ?_ | refine W_pure TOk (by rfl) (by first | trivial | (simp only [okI, and_true, true_and, and_self] <;> omega) | omega) ?_ | refine W_cond_f (by rfl) ?_ | refine W_load_box 0 TOk (by rfl) (by rfl) (by rfl) (by rfl) (by rfl) ?_ | refine W_load_box 3 TOk (by rfl) (by rfl) (by rfl) (by rfl) (by rfl) ?_
        simp only [Int.toNat_natCast]
        refine W_call (vs := [.slice (cutA A (b.1 + 1) c0 1) ((L.drop (b.1 + 1)).take (L.length - (b.1 + 1))).length (c0 - (b.1 + 1))]) _ (by rfl) Try.call46 ?_ (fun w1 hw => Twin_c w1 (cutA A (b.1 + 1) c0 1) (c0 - (b.1 + 1)) ((L.drop (b.1 + 1)).take (L.length - (b.1 + 1))) ((hl.below hw.below).cut (b.1 + 1) L.length c0 (by omega)) (by rw [drop_cut]; omega)) ?_
        · rw [drop_cut, hdl]; rfl
        rw [drop_cut]
        rintro _ _ ⟨A8, c8, vs2, rfl, hv2, rfl⟩
        dsimp only [List.cons_append, List.nil_append]
        refine W_rowsOne 1 (by rfl) hv2 (fun h1c => ?_)
        refine W_append_own 6 TOk (by rfl) (by rfl) (by rfl) sl22 (by rfl) (fun w1 hw => hw.hp.cells 0 rfl) (by rw [hv2, Nat.mul_one]) h1c (by unfold maxLen; omega) (by omega) (fun A9 c9 => ?_); dsimp only [setL]
        refine W_ent ((Ent.sel [6, 6, 1, 1, 1, 1, 1] _ (by rfl))) ?_
        refine W_ent (Ent.cons _ (Ent.rowsA_app hvl _)) ?_
        have hout : (L.take a.1 ++ L.drop (b.1 + 1)).length = (L.take a.1).length + (L.drop (b.1 + 1)).length := by rw [List.length_append]
        have htot : tot (L.take a.1 ++ L.drop (b.1 + 1)) ≤ 2 * tot L := by rw [tot_append]; omega
        have hvo : (vs ++ vs2).length = (L.take a.1 ++ L.drop (b.1 + 1)).length := by rw [hout, List.length_append, hvl, hv2]
        rw [← hout]
        generalize L.take a.1 ++ L.drop (b.1 + 1) = O at *
        generalize vs ++ vs2 = vo at *
        unfold orOne
        repeat first | refine W_seq ?_ | refine W_region (by rfl) ?_ | refine W_opsnil ?_ | refine W_pure TOk (by rfl) (by first | trivial | (simp only [okI, and_true, true_and, and_self] <;> omega) | omega) ?_ | refine W_cond_t (by rfl) ?_ | refine W_load_box 5 TOk (by rfl) (by rfl) (by rfl) (by rfl) (by rfl) ?_
        refine W_cond_d (by rfl) (fun hz => ?_) (fun hz => ?_)
        · rw [if_pos (show O.length = 0 by omega)]
          have hm : min a.1 (([[]] : List (List Int)).length - 1) = 0 := by simp
          rw [hm]
          repeat first | refine W_region (by rfl) ?_
          refine W_lit TOk (cs := [_]) (by rfl) (by first | exact sl48 | exact sl22 | exact sl136 | exact sl150 | exact sl223 | exact sl29 | exact sl132 | exact sl207) (by rfl) (by rfl) (by rfl) (by rfl) (fun g => ?_)
          refine W_ent (((Ent.sel [0, 2, 2, 2, 2] _ (by rfl))).trans (Ent.cons _ ((Ent.own_zero 21 1 none _).trans ((Ent.rowA_in none 0 [] _).trans (Ent.one_seps _ _))))) ?_
          have hmin : minI ((a.1 : Nat) : Int) ((1 : Int) - 1) = ((0 : Nat) : Int) := by unfold minI; split <;> omega
          repeat first | refine W_seq ?_ | refine W_region (by rfl) ?_ | refine W_opsnil ?_ | refine W_pure TOk (by rfl) (by first | trivial | (simp only [okI, and_true, true_and, and_self] <;> omega) | omega) ?_ | refine W_load_box 3 TOk (by rfl) (by rfl) (by rfl) (by rfl) (by rfl) ?_
          rw [show minI ((a.1 : Nat) : Int) (((1 : Nat) : Int) - 1) = ((0 : Nat) : Int) from hmin]
          refine W_index TOk (by rfl) (by rfl) (by rfl) (by first | exact es48 | exact es22 | exact es136 | exact es150 | exact es223 | exact es29 | exact es132 | exact es207) (by omega) (by omega) (fun w1 hw => (hw.hp.cells 0 rfl).isSome (by simp)) ?_
          refine W_load TOk (by rfl) (by rfl) (by rfl) (fun w1 hw => (hw.hp.cells 0 rfl).elem1 (by rfl)) ?_
          refine W_callV (by rfl) Try.call124 (by rfl) (fun w1 hw => First_c w1 none 0 [] (Cells.nil _ _) (by decide)) ?_
          repeat first | refine W_opsnil ?_ | refine W_pure TOk (by rfl) (by first | trivial | (simp only [okI, and_true, true_and, and_self] <;> omega) | omega) ?_ | (refine W_store_box 4 TOk (by rfl) (by rfl) (by rfl) (by rfl) (by rfl) (by rfl) ?_; dsimp only [setL, putL, vcells])
          exact W_retF (vs := [_, _, _]) ⟨rfl, rv_box 4 TOk rfl rfl rfl, rfl, trivial⟩ (M := [own 48 1 (some ⟨g, 0, none⟩) 1 1 [.slice none 0 0], rowsA [.slice none 0 0] [[]]]) (Ent.sel [0, 0] _ (by rfl)) (.inr ⟨rfl, _, _, _, rfl, rfl, rfl⟩)
        · rw [if_neg (show ¬ O.length = 0 by omega)]
          repeat first | refine W_seq ?_ | refine W_skip ?_ | refine W_region (by rfl) ?_ | refine W_opsnil ?_ | refine W_pure TOk (by rfl) (by first | trivial | (simp only [okI, and_true, true_and, and_self] <;> omega) | omega) ?_ | refine W_load_box 3 TOk (by rfl) (by rfl) (by rfl) (by rfl) (by rfl) ?_
          have hmin : minI ((a.1 : Nat) : Int) (((O.length : Nat) : Int) - 1) = ((min a.1 (O.length - 1) : Nat) : Int) := by unfold minI; split <;> omega
          rw [hmin]
          refine W_rowsHdr 1 (by rfl) hvo (fun hh => ?_)
          have hrO := rowN_get (xss := O) (i := min a.1 (O.length - 1)) (by omega)
          have hrl := rowN_len (xss := O) (i := min a.1 (O.length - 1)) (by omega)
          obtain ⟨B, cB, hvB, hcB⟩ := hh _ _ hrO
          refine W_index TOk (by rfl) (by rfl) (by rfl) (by first | exact es48 | exact es22 | exact es136 | exact es150 | exact es223 | exact es29 | exact es132 | exact es207) (by omega) (by omega) (fun w1 hw => (hw.hp.cells 0 rfl).isSome (by omega)) ?_
          refine W_load TOk (by rfl) (by rfl) (by rfl) (fun w1 hw => (hw.hp.cells 0 rfl).elem1 (by rw [Int.toNat_natCast]; exact hvB)) ?_
          refine W_callV (by rfl) Try.call124 (by rfl) (fun w1 hw => First_c w1 B cB (rowN O (min a.1 (O.length - 1))) (hw.hp.rowCells 1 rfl hvo hrO hvB) (by omega)) ?_
          repeat first | refine W_opsnil ?_ | refine W_pure TOk (by rfl) (by first | trivial | (simp only [okI, and_true, true_and, and_self] <;> omega) | omega) ?_ | (refine W_store_box 4 TOk (by rfl) (by rfl) (by rfl) (by rfl) (by rfl) (by rfl) ?_; dsimp only [setL, putL, vcells])
          exact W_retF (vs := [_, _, _]) ⟨rfl, rv_box 4 TOk rfl rfl rfl, rfl, trivial⟩ (M := [own 48 1 A9 O.length c9 vo, rowsA vo O]) (Ent.sel [0, 0] _ (by rfl)) (.inr ⟨rfl, A9, c9, vo, rfl, hvo, rfl⟩)
      · have ec : cutS L 2 a b = (L.take a.1 ++ gathS cutOut L 2 a b (b.1 + 1 - a.1) ++ L.drop (b.1 + 1), clipS (L.take a.1 ++ gathS cutOut L 2 a b (b.1 + 1 - a.1) ++ L.drop (b.1 + 1)) (a.1 : Nat) ((min a.2 b.2 : Nat) : Int)) := rfl
        have eb : blkG L 2 a b (b.1 + 1 - a.1) = gathS cutOut L 2 a b (b.1 + 1 - a.1) := rfl
        rw [eb] at hvl hal ⊢
        rw [ec]
        generalize gathS cutOut L 2 a b (b.1 + 1 - a.1) = G at *
        repeat first | refine W_seq ?_ | refine W_skip ?_ | refine W_exit (by rfl) ?_ | refine W_region (by rfl) ?_ | refine W_opsnil ?_ | refine W_pure TOk (by rfl) (by first | trivial | (simp only [okI, and_true, true_and, and_self] <;> omega) | omega) ?_ | refine W_cond_f (by rfl) ?_ | refine W_load_box 0 TOk (by rfl) (by rfl) (by rfl) (by rfl) (by rfl) ?_ | refine W_load_box 3 TOk (by rfl) (by rfl) (by rfl) (by rfl) (by rfl) ?_
        simp only [Int.toNat_natCast]
        refine W_call (vs := [.slice (cutA A (b.1 + 1) c0 1) ((L.drop (b.1 + 1)).take (L.length - (b.1 + 1))).length (c0 - (b.1 + 1))]) _ (by rfl) Try.call46 ?_ (fun w1 hw => Twin_c w1 (cutA A (b.1 + 1) c0 1) (c0 - (b.1 + 1)) ((L.drop (b.1 + 1)).take (L.length - (b.1 + 1))) ((hl.below hw.below).cut (b.1 + 1) L.length c0 (by omega)) (by rw [drop_cut]; omega)) ?_
        · rw [drop_cut, hdl]; rfl
        rw [drop_cut]
        rintro _ _ ⟨A8, c8, vs2, rfl, hv2, rfl⟩
        dsimp only [List.cons_append, List.nil_append]
        refine W_rowsOne 1 (by rfl) hv2 (fun h1c => ?_)
        refine W_append_own 6 TOk (by rfl) (by rfl) (by rfl) sl22 (by rfl) (fun w1 hw => hw.hp.cells 0 rfl) (by rw [hv2, Nat.mul_one]) h1c (by unfold maxLen; omega) (by omega) (fun A9 c9 => ?_); dsimp only [setL]
        refine W_ent ((Ent.sel [6, 6, 1, 1, 1, 1, 1] _ (by rfl))) ?_
        refine W_ent (Ent.cons _ (Ent.rowsA_app hvl _)) ?_
        have hout : (L.take a.1 ++ G ++ L.drop (b.1 + 1)).length = (L.take a.1 ++ G).length + (L.drop (b.1 + 1)).length := by rw [List.length_append]
        have htot : tot (L.take a.1 ++ G ++ L.drop (b.1 + 1)) ≤ 2 * tot L := by rw [tot_append, tot_append]; omega
        have hvo : (vs ++ vs2).length = (L.take a.1 ++ G ++ L.drop (b.1 + 1)).length := by rw [hout, List.length_append, hvl, hv2]
        rw [← hout]
        generalize L.take a.1 ++ G ++ L.drop (b.1 + 1) = O at *
        generalize vs ++ vs2 = vo at *
        repeat first | refine W_seq ?_ | refine W_skip ?_ | refine W_region (by rfl) ?_ | refine W_opsnil ?_ | refine W_pure TOk (by rfl) (by first | trivial | (simp only [okI, and_true, true_and, and_self] <;> omega) | omega) ?_ | refine W_cond_t (by rfl) ?_ | refine W_cond_f (by rfl) ?_ | refine W_load_box 2 TOk (by rfl) (by rfl) (by rfl) (by rfl) (by rfl) ?_ | refine W_load_box 3 TOk (by rfl) (by rfl) (by rfl) (by rfl) (by rfl) ?_ | refine W_load_box 5 TOk (by rfl) (by rfl) (by rfl) (by rfl) (by rfl) ?_ | refine W_load_boxN 3 TOk (by rfl) (by rfl) (by rfl) (by rfl) (by rfl) ?_ | (refine W_store_box 3 TOk (by rfl) (by rfl) (by rfl) (by rfl) (by rfl) (by rfl) ?_; dsimp only [setL, putL, vcells])
        rw [min_nat]
        refine W_callV (by rfl) Try.call57 (by rfl) (fun w1 hw => RClip_c w1 A9 c9 O (rows_of hw.hp 0 1 rfl rfl hvo) (by omega) a.1 ((min a.2 b.2 : Nat) : Int)) ?_
        repeat first | refine W_opsnil ?_ | refine W_pure TOk (by rfl) (by first | trivial | (simp only [okI, and_true, true_and, and_self] <;> omega) | omega) ?_ | (refine W_store_box 4 TOk (by rfl) (by rfl) (by rfl) (by rfl) (by rfl) (by rfl) ?_; dsimp only [setL, putL, vcells])
        exact W_retF (vs := [_, _, _]) ⟨rfl, rv_box 4 TOk rfl rfl rfl, rfl, trivial⟩ (M := [own 48 1 A9 O.length c9 vo, rowsA vo O]) (Ent.sel [0, 0] _ (by rfl)) (.inr ⟨rfl, A9, c9, vo, rfl, hvo, rfl⟩)
end Go.Proofs.Ytdfibmbedjpcgaa
