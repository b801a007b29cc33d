/- Contracts: the document's Take; registers alike; lines put in the place of some; how large lines are. -/
import Derived.Test.YtdfibmbedjpcgaaO4
set_option linter.unusedVariables false
set_option linter.unusedSimpArgs false
namespace Go.Proofs.Ytdfibmbedjpcgaa
open Go Go.RowKit Eng Ls
attribute [local irreducible] Eng.W

theorem gath_in_row (L : List (List Int)) (kd : Int) (a b : Nat × Nat) (n : Nat) : gathS cutIn L kd a b (n + 1) = gathS cutIn L kd a b n ++ [cutIn (rowN L (a.1 + n)) (colF kd a b (rowN L (a.1 + n)).length (a.1 + n)) (colT kd a b (rowN L (a.1 + n)).length (a.1 + n))] := gathS_succ _ _ _ _ _ _
set_option maxRecDepth 4000 in
set_option maxHeartbeats 2000000 in
theorem RTake_c (w : World) (A : Option Addr) (c0 : Nat) (L : List (List Int)) (hl : RowsAt w A L) (hb : L.length + tot L ≤ 1073741824) (fl fc tl tc kd : Int) :
    Fresh Try.prog 48 [.slice A L.length c0, rgV fl fc tl tc kd] w (TakeR L fl fc tl tc kd) := by
  refine enterF Try.func48 rfl Try.ntmps48 rfl rfl ?_
  repeat first | refine W_seq ?_ | refine W_region (by rfl) ?_
  refine W_box (cs := [_, _, _, _, _]) (by rfl) (by rfl) (by rfl) (fun b3 => ?_)
  refine W_alloc (cs := [_, _]) TOk (by rfl) (by rfl) (fun b4 => ?_)
  repeat first | refine W_seq ?_ | refine W_region (by rfl) ?_ | refine W_opsnil ?_ | refine W_pure TOk (by rfl) (by first | trivial | (simp only [okI, and_true, true_and, and_self] <;> omega) | omega) ?_ | refine W_load_boxN 1 TOk (by rfl) (by rfl) (by rfl) (by rfl) (by rfl) ?_
  refine W_callV (by rfl) Try.call116 (by rfl) (fun w1 hw => there_c w1 A c0 L (hl.below hw.below) (by omega) fl fc tl tc kd) ?_
  repeat first | refine W_seq ?_ | refine W_region (by rfl) ?_ | refine W_opsnil ?_ | refine W_pure TOk (by rfl) (by first | trivial | (simp only [okI, and_true, true_and, and_self] <;> omega) | omega) ?_
  refine W_cond_nd (by rfl) (fun hne => ?_) (fun he => ?_)
  · repeat first | refine W_seq ?_ | refine W_region (by rfl) ?_ | refine W_opsnil ?_ | refine W_pure TOk (by rfl) (by first | trivial | (simp only [okI, and_true, true_and, and_self] <;> omega) | omega) ?_ | (refine W_store_box 0 TOk (by rfl) (by rfl) (by rfl) (by rfl) (by rfl) (by rfl) ?_; dsimp only [setL, putL, vcells])
    exact W_retF (vs := [_, _]) ⟨rv_box 0 TOk rfl rfl rfl, rfl, trivial⟩ (M := []) (Ent.nil _) (.inl ⟨hne, rfl, rfl⟩)
  · obtain ⟨hok, heq⟩ := regOk he
    have hle := hok.le
    have hlt := hok.lt
    repeat first | refine W_seq ?_ | refine W_skip ?_ | refine W_region (by rfl) ?_ | refine W_load_boxN 1 TOk (by rfl) (by rfl) (by rfl) (by rfl) (by rfl) ?_
    refine W_callV (by rfl) Try.call117 (by rfl) (fun w1 hw => ends_c w1 L fl fc tl tc kd he) ?_
    have hts : takeS L fl fc tl tc kd = gathS cutIn L kd (regA fl fc tl tc) (regB fl fc tl tc) (rgN (regA fl fc tl tc) (regB fl fc tl tc)) := rfl
    have hpart := fun (w1 : World) (hw : Below w.heap.size w w1) (i : Nat) (g1 : (regA fl fc tl tc).1 ≤ i) (g2 : i ≤ (regB fl fc tl tc).1) => parted_c w1 A c0 L (hl.below hw) (by omega) fl fc tl tc kd he i g1 g2
    unfold TakeR
    rw [hts]
    generalize regA fl fc tl tc = a at *
    generalize regB fl fc tl tc = b at *
    repeat first | refine W_pure TOk (by rfl) (by first | trivial | (simp only [okI, and_true, true_and, and_self] <;> omega) | omega) ?_
    refine W_alloc (cs := [_, _]) TOk (by rfl) (by rfl) (fun b7 => ?_)
    refine W_alloc (cs := [_, _]) TOk (by rfl) (by rfl) (fun b8 => ?_)
    repeat first | refine W_seq ?_ | refine W_region (by rfl) ?_ | refine W_opsnil ?_ | refine W_pure TOk (by rfl) (by first | trivial | (simp only [okI, and_true, true_and, and_self] <;> omega) | omega) ?_ | refine W_load_box 3 TOk (by rfl) (by rfl) (by rfl) (by rfl) (by rfl) ?_ | (refine W_store_box 0 TOk (by rfl) (by rfl) (by rfl) (by rfl) (by rfl) (by rfl) ?_; dsimp only [setL, putL, vcells]) | (refine W_store_box 1 TOk (by rfl) (by rfl) (by rfl) (by rfl) (by rfl) (by rfl) ?_; dsimp only [setL, putL, vcells])
    refine W_alloc (cs := [_, _]) TOk (by rfl) (by rfl) (fun b9 => ?_)
    repeat first | refine W_seq ?_ | refine W_block ?_ | refine W_region (by rfl) ?_ | refine W_opsnil ?_ | refine W_pure TOk (by rfl) (by first | trivial | (simp only [okI, and_true, true_and, and_self] <;> omega) | omega) ?_ | refine W_load_box 2 TOk (by rfl) (by rfl) (by rfl) (by rfl) (by rfl) ?_ | (refine W_store_box 0 TOk (by rfl) (by rfl) (by rfl) (by rfl) (by rfl) (by rfl) ?_; dsimp only [setL, putL, vcells])
    refine W_loop (ι := Nat × Option Addr × Nat × List Value) (fun q => [(0, .slice A L.length c0), (3, .pointer (some ⟨b3, 0, none⟩)), (4, .pointer (some ⟨b4, 0, none⟩)), (7, .pointer (some ⟨b7, 0, none⟩)), (8, .pointer (some ⟨b8, 0, none⟩)), (9, .pointer (some ⟨b9, 0, none⟩)), (10, .int .i64 ((a.1 + q.1 : Nat) : Int))])
      (fun q => [box b9 54 [.int .i64 kd, .slice q.2.1 q.1 q.2.2.1], box b8 43 [.int .i64 (b.1 : Nat), .int .i64 (b.2 : Nat)], box b7 43 [.int .i64 (a.1 : Nat), .int .i64 (a.2 : Nat)], box b4 54 [.int .i64 0, .slice none 0 0], box b3 51 [.int .i64 fl, .int .i64 fc, .int .i64 tl, .int .i64 tc, .int .i64 kd], own 48 1 q.2.1 q.1 q.2.2.1 q.2.2.2, rowsA q.2.2.2 (gathS cutIn L kd a b q.1)])
      (fun q => q.1 ≤ b.1 + 1 - a.1 ∧ q.2.2.2.length = q.1) (fun q => b.1 + 1 - a.1 - q.1) (0, none, 0, []) ⟨by omega, rfl⟩ ⟨rfl, rfl, rfl, rfl, rfl, rfl, rfl, trivial⟩ ?_ ?_
    · exact Ent.cons _ (Ent.cons _ (Ent.cons _ (Ent.cons _ (Ent.cons _ ((Ent.rowsA_nil _).trans (Ent.own_zero _ _ _ _))))))
    rintro ⟨n, A1, c1, vs⟩ ⟨hn, hvl⟩
    dsimp only at hn hvl ⊢
    repeat first | refine W_seq ?_ | refine W_region (by rfl) ?_ | refine W_opsnil ?_ | refine W_pure TOk (by rfl) (by first | trivial | (simp only [okI, and_true, true_and, and_self] <;> omega) | omega) ?_ | refine W_load_box 1 TOk (by rfl) (by rfl) (by rfl) (by rfl) (by rfl) ?_
    refine W_cond_d (by rfl) (fun hle2 => ?_) (fun hgt => ?_)
    · have hrl := rowN_len (xss := L) (i := a.1 + n) (by omega)
      have hcl := col_le kd a b (rowN L (a.1 + n)).length (a.1 + n)
      repeat first | refine W_seq ?_ | refine W_skip ?_ | refine W_block ?_ | refine W_region (by rfl) ?_ | refine W_pure TOk (by rfl) (by first | trivial | (simp only [okI, and_true, true_and, and_self] <;> omega) | omega) ?_ | refine W_load_boxN 4 TOk (by rfl) (by rfl) (by rfl) (by rfl) (by rfl) ?_
      refine W_call _ (by rfl) Try.call118 (by rfl) (fun w1 hw => hpart w1 hw.below (a.1 + n) (by omega) (by omega)) ?_
      rintro _ _ ⟨A2, c2, A3, c3, rfl, rfl⟩
      dsimp only [List.cons_append, List.nil_append]
      repeat first | refine W_region (by rfl) ?_ | refine W_opsnil ?_ | refine W_pure TOk (by rfl) (by first | trivial | (simp only [okI, and_true, true_and, and_self] <;> omega) | omega) ?_ | refine W_load_box 2 TOk (by rfl) (by rfl) (by rfl) (by rfl) (by rfl) ?_
      refine W_lit TOk (cs := [_]) (by rfl) (by first | exact sl48 | exact sl22 | exact sl136 | exact sl150 | exact sl223 | exact sl29 | exact sl132 | exact sl207) (by rfl) (by rfl) (by rfl) (by rfl) (fun g1 => ?_)
      refine W_append_own 8 TOk (by rfl) (by rfl) (by rfl) (by first | exact sl48 | exact sl22 | exact sl136 | exact sl150 | exact sl223 | exact sl29 | exact sl132 | exact sl207) (by rfl) (fun w1 hw => hw.hp.cells 0 rfl) (by simp [i32s_length, i64s_length]) (by first | exact i32s_one _ | exact i64s_one _ | exact one_of _ rfl) (by unfold maxLen; omega) (by omega) (fun A5 c5 => ?_); dsimp only [setL]
      repeat first | refine W_blk ?_ | refine W_region (by rfl) ?_ | refine W_opsnil ?_ | refine W_pure TOk (by rfl) (by first | trivial | (simp only [okI, and_true, true_and, and_self] <;> omega) | omega) ?_ | (refine W_store_box 3 TOk (by rfl) (by rfl) (by rfl) (by rfl) (by rfl) (by rfl) ?_; dsimp only [setL, putL, vcells])
      refine W_inv (n + 1, A5, c5, vs ++ [.slice A2 (cutIn (rowN L (a.1 + n)) (colF kd a b (rowN L (a.1 + n)).length (a.1 + n)) (colT kd a b (rowN L (a.1 + n)).length (a.1 + n))).length c2]) ⟨by dsimp only; omega, by dsimp only; simp [hvl]⟩ (by dsimp only; omega) ⟨rfl, rfl, rfl, rfl, rfl, rfl, rfl, trivial⟩ ?_
      dsimp only
      rw [gath_in_row]
      refine ((Ent.sel [3, 3, 3, 3, 3, 3, 1, 2] _ (by rfl))).trans ?_
      exact Ent.cons _ (Ent.cons _ (Ent.cons _ (Ent.cons _ (Ent.cons _ (Ent.cons _ ((Ent.rowA_in A2 c2 _ _).trans ((Ent.swap _ _ _).trans (Ent.rowsA_snoc (by rw [hvl, gathS_length]) _ _ _))))))))
    · have e : n = b.1 + 1 - a.1 := by omega
      subst e
      repeat first | refine W_seq ?_ | refine W_exit (by rfl) ?_ | refine W_region (by rfl) ?_ | refine W_opsnil ?_ | refine W_pure TOk (by rfl) (by first | trivial | (simp only [okI, and_true, true_and, and_self] <;> omega) | omega) ?_ | refine W_load_boxN 0 TOk (by rfl) (by rfl) (by rfl) (by rfl) (by rfl) ?_ | (refine W_store_box 3 TOk (by rfl) (by rfl) (by rfl) (by rfl) (by rfl) (by rfl) ?_; dsimp only [setL, putL, vcells])
      refine W_retF (vs := [_, _]) ⟨rv_box 3 TOk rfl rfl rfl, rfl, trivial⟩ (M := [own 48 1 A1 (b.1 + 1 - a.1) c1 vs, rowsA vs (gathS cutIn L kd a b (b.1 + 1 - a.1))]) (Ent.sel [5, 5] _ (by rfl)) (.inr ⟨he, A1, c1, vs, ?_, ?_, ?_⟩)
      · rw [gathS_length]; rfl
      · rw [gathS_length]; exact hvl
      · rw [gathS_length]; rfl
/-! ### Registers alike -/
set_option maxHeartbeats 1000000 in
theorem RegSame_c (w : World) (k1 k2 : Int) (A A' : Option Addr) (c c' : Nat) (xss yss : List (List Int)) (hx : RowsAt w A xss) (hy : RowsAt w A' yss) (hbx : xss.length + tot xss ≤ 1125899906842624) (hby : yss.length + tot yss ≤ 1125899906842624) :
    Val Try.prog 49 [.agg #[.int .i64 k1, .slice A xss.length c], .agg #[.int .i64 k2, .slice A' yss.length c']] w (.bool (decide (k1 = k2) && decide (xss = yss))) := by
  refine enterF Try.func49 rfl Try.ntmps49 rfl rfl ?_
  repeat first | refine W_seq ?_ | refine W_region (by rfl) ?_
  refine W_box (cs := [_, _]) (by rfl) (by rfl) (by rfl) (fun b2 => ?_)
  refine W_box (cs := [_, _]) (by rfl) (by rfl) (by rfl) (fun b3 => ?_)
  repeat first | refine W_seq ?_ | refine W_region (by rfl) ?_ | refine W_opsnil ?_ | refine W_pure TOk (by rfl) (by first | trivial | (simp only [okI, and_true, true_and, and_self] <;> omega) | omega) ?_ | refine W_load_box 0 TOk (by rfl) (by rfl) (by rfl) (by rfl) (by rfl) ?_ | refine W_load_box 1 TOk (by rfl) (by rfl) (by rfl) (by rfl) (by rfl) ?_
  refine W_dec 10 (by rfl) (fun h => ?_) (fun h => ?_)
  · repeat first | refine W_pure TOk (by rfl) (by first | trivial | (simp only [okI, and_true, true_and, and_self] <;> omega) | omega) ?_ | refine W_on (by rfl) (by rfl) (by rfl) ?_ | refine W_load_box 0 TOk (by rfl) (by rfl) (by rfl) (by rfl) (by rfl) ?_ | refine W_load_box 1 TOk (by rfl) (by rfl) (by rfl) (by rfl) (by rfl) ?_
    refine W_callV (by rfl) Try.call50 (by rfl) (fun w1 hw => Same_c w1 A A' c c' xss yss (hx.below hw.below) (hy.below hw.below) hbx hby) ?_
    repeat first | refine W_opsnil ?_ | refine W_pure TOk (by rfl) (by first | trivial | (simp only [okI, and_true, true_and, and_self] <;> omega) | omega) ?_
    exact W_retF (vs := [_]) ⟨rfl, trivial⟩ (Ent.nil _) ⟨by rw [h, Bool.true_and]; rfl, rfl⟩
  · repeat first | refine W_opsnil ?_ | refine W_pure TOk (by rfl) (by first | trivial | (simp only [okI, and_true, true_and, and_self] <;> omega) | omega) ?_ | refine W_off (by rfl) (by rfl) (by rfl) (by rfl) (by rfl) ?_
    exact W_retF (vs := [_]) ⟨rfl, trivial⟩ (Ent.nil _) ⟨by rw [h, Bool.false_and]; rfl, rfl⟩
/-! ### Lines in the place of some -/
def PutR (L : List (List Int)) (f t nb : Nat) (vsb : List Value) (v : Value) (M : List Ast) : Prop :=
  ∃ A c vs1 vs2, v = .slice A (f + nb + (L.length - t)) c ∧ vs1.length = f ∧ vs2.length = L.length - t ∧ M = [own 48 1 A (f + nb + (L.length - t)) c (vs1 ++ vsb ++ vs2), rowsA vs1 (L.take f), rowsA vs2 (L.drop t)]
set_option maxRecDepth 4000 in
set_option maxHeartbeats 2000000 in
theorem put_c (w : World) (A : Option Addr) (c0 : Nat) (L : List (List Int)) (hl : RowsAt w A L) (hc : L.length ≤ c0) (hb : L.length + tot L ≤ 1073741824) (f t : Nat) (hf : f ≤ L.length) (ht : t ≤ L.length) (A3 : Option Addr) (nb c3 : Nat) (vsb : List Value) (hvb : Cells w A3 vsb) (hnb : vsb.length = nb) (h1b : ∀ u ∈ vsb, u.oneCell' = true) (hbb : nb ≤ 1073741824) :
    Fresh Try.prog 121 [.slice A L.length c0, .int .i64 (f : Nat), .int .i64 (t : Nat), .slice A3 nb c3] w (PutR L f t nb vsb) := by
  have e0 : ((L.drop 0).take (f - 0)).length = f := by simp; omega
  have e1 : ((L.drop t).take (L.length - t)).length = L.length - t := by simp
  have q0 : (L.drop 0).take (f - 0) = L.take f := by rw [List.drop_zero, Nat.sub_zero]
  have q1 : (L.drop t).take (L.length - t) = L.drop t := by rw [List.take_of_length_le (by simp)]
  have t0 := tot_take L f
  have t1 := tot_drop L t
  refine enterF Try.func121 rfl Try.ntmps121 rfl rfl ?_
  repeat first | refine W_seq ?_ | refine W_region (by rfl) ?_ | refine W_opsnil ?_ | refine W_pure TOk (by rfl) (by first | trivial | (simp only [okI, and_true, true_and, and_self] <;> omega) | omega) ?_
  simp only [Int.toNat_natCast, Int.toNat_zero, Nat.sub_zero]
  refine W_call (vs := [.slice (cutA A 0 c0 1) ((L.drop 0).take (f - 0)).length c0]) _ (by rfl) Try.call127 ?_ (fun w1 hw => Lines_c w1 (cutA A 0 c0 1) c0 ((L.drop 0).take (f - 0)) ((hl.below hw.below).cut 0 f c0 (by omega)) (by rw [q0, List.length_take]; omega)) ?_
  · rw [e0]; rfl
  rw [q0]
  rintro _ _ ⟨A1, c1, vs1, rfl, hv1, rfl⟩
  have hv1' : vs1.length = f := by rw [hv1, List.length_take]; omega
  rw [show (L.take f).length = f by rw [List.length_take]; omega]
  dsimp only [List.cons_append, List.nil_append]
  repeat first | refine W_pure TOk (by rfl) (by first | trivial | (simp only [okI, and_true, true_and, and_self] <;> omega) | omega) ?_
  refine W_append_own 0 TOk (by rfl) (by rfl) (by rfl) sl22 (by rfl) (fun w1 hw => hvb.below hw.below) (by rw [hnb, Nat.mul_one]) h1b (by unfold maxLen; omega) (by omega) (fun A2 c2 => ?_); dsimp only [setL]
  repeat first | refine W_seq ?_ | refine W_region (by rfl) ?_ | refine W_opsnil ?_ | refine W_pure TOk (by rfl) (by first | trivial | (simp only [okI, and_true, true_and, and_self] <;> omega) | omega) ?_
  simp only [Int.toNat_natCast]
  refine W_call (vs := [.slice (cutA A t c0 1) ((L.drop t).take (L.length - t)).length (c0 - t)]) _ (by rfl) Try.call127 ?_ (fun w1 hw => Lines_c w1 (cutA A t c0 1) (c0 - t) ((L.drop t).take (L.length - t)) ((hl.below hw.below).cut t L.length c0 (by omega)) (by rw [q1, List.length_drop]; omega)) ?_
  · rw [e1]; rfl
  rw [q1]
  rintro _ _ ⟨A4, c4, vs2, rfl, hv2, rfl⟩
  have hv2' : vs2.length = L.length - t := by rw [hv2, List.length_drop]
  rw [show (L.drop t).length = L.length - t by rw [List.length_drop]]
  dsimp only [List.cons_append, List.nil_append]
  refine W_rowsOne 1 (by rfl) (by rw [hv2', List.length_drop]) (fun h1c => ?_)
  refine W_append_own 2 TOk (by rfl) (by rfl) (by rfl) sl22 (by rfl) (fun w1 hw => hw.hp.cells 0 rfl) (by rw [hv2', Nat.mul_one]) h1c (by unfold maxLen; omega) (by omega) (fun A5 c5 => ?_); dsimp only [setL]
  repeat first | refine W_opsnil ?_ | refine W_pure TOk (by rfl) (by first | trivial | (simp only [okI, and_true, true_and, and_self] <;> omega) | omega) ?_
  exact W_retF (vs := [_]) ⟨rfl, trivial⟩ (M := [own 48 1 A5 (f + nb + (L.length - t)) c5 (vs1 ++ vsb ++ vs2), rowsA vs1 (L.take f), rowsA vs2 (L.drop t)]) (Ent.sel [2, 2, 1] _ (by rfl)) ⟨A5, c5, vs1, vs2, rfl, hv1', hv2', rfl⟩
/-! ### The first rune that is not blank; how large lines are -/
set_option maxHeartbeats 1000000 in
theorem firstF_c (w : World) (r : Int) : Val Try.prog 179 [.int .i32 r] w (.bool (!blk r)) := by
  refine enterF Try.func179 rfl Try.ntmps179 rfl rfl ?_
  repeat first | refine W_seq ?_ | refine W_region (by rfl) ?_ | refine W_opsnil ?_ | refine W_pure TOk (by rfl) (by first | trivial | (simp only [okI, and_true, true_and, and_self] <;> omega) | omega) ?_
  refine W_callV (by rfl) Try.call144 (by rfl) (fun w1 hw => Class_c w1 r false) ?_
  repeat first | refine W_opsnil ?_ | refine W_pure TOk (by rfl) (by first | trivial | (simp only [okI, and_true, true_and, and_self] <;> omega) | omega) ?_
  exact W_retF (vs := [_]) ⟨rfl, trivial⟩ (Ent.nil _) ⟨rfl, rfl⟩
def idxS (x : List Int) : Int := if lead x < x.length then (lead x : Int) else -1
set_option maxHeartbeats 1000000 in
theorem IndexFunc_c (w : World) (gf : Nat) (caps : Array Value) (hgf : ∀ args w, (callFunc gf args).run Try.prog w = .ok (.enter gf args) w)
    (hg : ∀ w1, Below w.heap.size w w1 → ∀ r : Int, Val Try.prog gf (.int .i32 r :: caps.toList) w1 (.bool (!blk r)))
    (A : Option Addr) (c : Nat) (xs : List Int) (hx : Cells w A (i32s xs)) (hb : xs.length ≤ 1152921504606846976) : Val Try.prog 148 [.slice A xs.length c, .func (.func gf) #[] caps] w (.int .i64 (idxS xs)) := by
  refine enterF Try.func148 rfl Try.ntmps148 rfl rfl ?_
  repeat first | refine W_seq ?_ | refine W_block ?_ | refine W_region (by rfl) ?_ | refine W_opsnil ?_ | refine W_pure TOk (by rfl) (by first | trivial | (simp only [okI, and_true, true_and, and_self] <;> omega) | omega) ?_
  refine W_loop (ι := Nat) (fun i => [(0, .slice A xs.length c), (1, .func (.func gf) #[] caps), (7, .int .i64 (xs.length : Nat)), (8, .int .i64 (i : Nat))]) (fun _ => []) (fun i => i ≤ xs.length ∧ ∀ j v, j < i → xs[j]? = some v → blk v = true) (fun i => xs.length - i) 0
    ⟨by omega, fun j v h => by omega⟩ ⟨rfl, rfl, rfl, rfl, trivial⟩ (Ent.refl _) ?_
  rintro i ⟨hi, hbl⟩
  repeat first | refine W_seq ?_ | refine W_region (by rfl) ?_ | refine W_opsnil ?_ | refine W_pure TOk (by rfl) (by first | trivial | (simp only [okI, and_true, true_and, and_self] <;> omega) | omega) ?_
  refine W_cond_d (by rfl) (fun hlt => ?_) (fun hge => ?_)
  · have hrd := rd_get (xs := xs) (i := (i : Int)) (by omega) hlt
    rw [show ((i : Int)).toNat = i by omega] at hrd
    repeat first | refine W_seq ?_ | refine W_skip ?_ | refine W_block ?_ | refine W_region (by rfl) ?_ | refine W_opsnil ?_ | refine W_pure TOk (by rfl) (by first | trivial | (simp only [okI, and_true, true_and, and_self] <;> omega) | omega) ?_
    refine W_index TOk (by rfl) (by rfl) (by rfl) (by first | exact es48 | exact es22 | exact es136 | exact es150 | exact es223 | exact es29 | exact es132 | exact es207) (by omega) (by omega) (fun w1 hw => (hx.below hw.below).isSome (by rw [i32s_length]; omega)) ?_
    refine W_load TOk (by rfl) (by rfl) (by rfl) (fun w1 hw => (hx.below hw.below).elem1 (i32s_get (by omega) hlt)) ?_
    refine W_callFV (us := .int .i32 (rd xs i) :: caps.toList) (by rfl) (by rfl) hgf (by rfl) (by rfl) (fun w1 hw => hg w1 hw.below (rd xs i)) ?_
    repeat first | refine W_opsnil ?_
    refine W_cond (by rfl) (fun hn => ?_) (fun hn => ?_)
    · have hbf : blk (rd xs i) = false := by simpa using hn
      repeat first | refine W_seq ?_ | refine W_region (by rfl) ?_ | refine W_opsnil ?_ | refine W_pure TOk (by rfl) (by first | trivial | (simp only [okI, and_true, true_and, and_self] <;> omega) | omega) ?_
      have hl : lead xs = i := lead_eq hbl (fun v hv => by rw [hrd] at hv; rw [← Option.some.inj hv]; exact hbf) (by omega)
      refine W_retF (vs := [_]) ⟨rfl, trivial⟩ (Ent.refl _) ⟨?_, rfl⟩
      unfold idxS
      rw [hl, if_pos (by omega)]
      rfl
    · have hbt : blk (rd xs i) = true := by simpa using hn
      repeat first | refine W_skip ?_ | refine W_blk ?_ | refine W_region (by rfl) ?_ | refine W_opsnil ?_ | refine W_pure TOk (by rfl) (by first | trivial | (simp only [okI, and_true, true_and, and_self] <;> omega) | omega) ?_
      refine W_inv (i + 1) ⟨by omega, fun j v hj hv => ?_⟩ (by omega) ⟨rfl, rfl, rfl, rfl, trivial⟩ (Ent.refl _)
      rcases Nat.lt_or_ge j i with h | h
      · exact hbl j v h hv
      · have : j = i := by omega
        subst this
        rw [hrd] at hv
        rw [← Option.some.inj hv]
        exact hbt
  · have hl : lead xs = xs.length := lead_eq (fun j v hj hv => hbl j v (by omega) hv) (fun v hv => by simp at hv) (Nat.le_refl _)
    repeat first | refine W_seq ?_ | refine W_exit (by rfl) ?_ | refine W_region (by rfl) ?_ | refine W_opsnil ?_ | refine W_pure TOk (by rfl) (by first | trivial | (simp only [okI, and_true, true_and, and_self] <;> omega) | omega) ?_
    refine W_retF (vs := [_]) ⟨rfl, trivial⟩ (Ent.refl _) ⟨?_, rfl⟩
    unfold idxS
    rw [hl, if_neg (by omega)]
    rfl
set_option maxHeartbeats 1000000 in
theorem first_c (w : World) (A : Option Addr) (c : Nat) (L : List (List Int)) (hl : RowsAt w A L) (hb : L.length + tot L ≤ 1099511627776) (i : Nat) (hi : i < L.length) : Val Try.prog 122 [.slice A L.length c, .int .i64 (i : Nat)] w (posN (i, firstS (rowN L i))) := by
  obtain ⟨B, cB, hcB, hB_, hvs⟩ := hl.row (i := (i : Int)) (by omega) (by omega)
  rw [rowN_rw] at hvs hB_ hcB
  have hrl := rowN_len (xss := L) (i := i) (by omega)
  have hll := lead_le (rowN L i)
  refine enterF Try.func122 rfl Try.ntmps122 rfl rfl ?_
  repeat first | refine W_seq ?_ | refine W_region (by rfl) ?_
  refine W_alloc (cs := [_, _]) TOk (by rfl) (by rfl) (fun b4 => ?_)
  repeat first | refine W_seq ?_ | refine W_region (by rfl) ?_ | refine W_opsnil ?_ | refine W_pure TOk (by rfl) (by first | trivial | (simp only [okI, and_true, true_and, and_self] <;> omega) | omega) ?_
  refine W_index TOk (by rfl) (by rfl) (by rfl) (by first | exact es48 | exact es22 | exact es136 | exact es150 | exact es223 | exact es29 | exact es132 | exact es207) (by omega) (by omega) (fun w1 hw => (hl.below hw.below).isSome (by omega)) ?_
  refine W_load TOk (by rfl) (by rfl) (by rfl) (fun w1 hw => cells_elem1 hvs hw.below) ?_
  repeat first | refine W_seq ?_ | refine W_region (by rfl) ?_ | refine W_opsnil ?_ | refine W_pure TOk (by rfl) (by first | trivial | (simp only [okI, and_true, true_and, and_self] <;> omega) | omega) ?_
  refine W_callV (by rfl) Try.call148 (by rfl) (fun w1 hw => IndexFunc_c w1 179 #[] Try.call179 (fun w2 _ r => firstF_c w2 r) B cB (rowN L i) (hB_.below hw.below) (by omega)) ?_
  repeat first | refine W_seq ?_ | refine W_region (by rfl) ?_ | refine W_opsnil ?_ | refine W_pure TOk (by rfl) (by first | trivial | (simp only [okI, and_true, true_and, and_self] <;> omega) | omega) ?_
  unfold idxS
  by_cases h : lead (rowN L i) < (rowN L i).length
  · rw [if_pos h]
    repeat first | refine W_seq ?_ | refine W_skip ?_ | refine W_region (by rfl) ?_ | refine W_opsnil ?_ | refine W_pure TOk (by rfl) (by first | trivial | (simp only [okI, and_true, true_and, and_self] <;> omega) | omega) ?_ | refine W_cond_f (by rfl) ?_ | (refine W_store_box 0 TOk (by rfl) (by rfl) (by rfl) (by rfl) (by rfl) (by rfl) ?_; dsimp only [setL, putL, vcells])
    refine W_retF (vs := [_]) ⟨rv_box 0 TOk rfl rfl rfl, trivial⟩ (Ent.nil _) ⟨?_, rfl⟩
    unfold firstS posN
    rw [if_pos h]
    rfl
  · rw [if_neg h]
    repeat first | refine W_seq ?_ | refine W_region (by rfl) ?_ | refine W_opsnil ?_ | refine W_pure TOk (by rfl) (by first | trivial | (simp only [okI, and_true, true_and, and_self] <;> omega) | omega) ?_ | refine W_cond_t (by rfl) ?_ | (refine W_store_box 0 TOk (by rfl) (by rfl) (by rfl) (by rfl) (by rfl) (by rfl) ?_; dsimp only [setL, putL, vcells])
    refine W_retF (vs := [_]) ⟨rv_box 0 TOk rfl rfl rfl, trivial⟩ (Ent.nil _) ⟨?_, rfl⟩
    unfold firstS posN
    rw [if_neg h]
    rw [show maxI 0 ((((rowN L i).length : Nat) : Int) - 1) = (((rowN L i).length - 1 : Nat) : Int) by unfold maxI; split <;> omega]
    rfl
set_option maxHeartbeats 1000000 in
theorem size_c (w : World) (A : Option Addr) (c : Nat) (L : List (List Int)) (hl : RowsAt w A L) (hb : L.length + tot L ≤ 1099511627776) : Val Try.prog 126 [.slice A L.length c] w (.int .i64 (runes L : Nat)) := by
  have e0 : maxI 0 (((L.length : Nat) : Int) - 1) = ((L.length - 1 : Nat) : Int) := by unfold maxI; split <;> omega
  refine enterF Try.func126 rfl Try.ntmps126 rfl rfl ?_
  repeat first | refine W_seq ?_ | refine W_block ?_ | refine W_region (by rfl) ?_ | refine W_opsnil ?_ | refine W_pure TOk (by rfl) (by first | trivial | (simp only [okI, and_true, true_and, and_self] <;> omega) | omega) ?_
  rw [e0]
  refine W_loop (ι := Nat) (fun k => [(0, .slice A L.length c), (3, .int .i64 ((L.length - 1 + tot (L.take k) : Nat) : Int)), (10, .slice A L.length c), (11, .int .i64 (L.length : Nat)), (12, .int .i64 (k : Nat))]) (fun _ => []) (fun k => k ≤ L.length) (fun k => L.length - k) 0
    (by omega) ⟨rfl, rfl, rfl, rfl, rfl, trivial⟩ (Ent.refl _) ?_
  intro k hk
  have htk := tot_take L k
  repeat first | refine W_seq ?_ | refine W_region (by rfl) ?_ | refine W_opsnil ?_ | refine W_pure TOk (by rfl) (by first | trivial | (simp only [okI, and_true, true_and, and_self] <;> omega) | omega) ?_
  refine W_cond_d (by rfl) (fun hlt => ?_) (fun hge => ?_)
  · obtain ⟨B, cB, hcB, hB_, hvs⟩ := hl.row (i := (k : Int)) (by omega) hlt
    have hrl := row_len_le L (i := (k : Int)) (by omega) hlt
    have hg := rw_get (xss := L) (i := (k : Int)) (by omega) hlt
    rw [show ((k : Int)).toNat = k by omega] at hg
    have hts := tot_snoc hg
    have htk1 := tot_take L (k + 1)
    repeat first | refine W_seq ?_ | refine W_skip ?_ | refine W_block ?_ | refine W_region (by rfl) ?_
    refine W_index TOk (by rfl) (by rfl) (by rfl) (by first | exact es48 | exact es22 | exact es136 | exact es150 | exact es223 | exact es29 | exact es132 | exact es207) (by omega) (by omega) (fun w1 hw => (hl.below hw.below).isSome (by omega)) ?_
    refine W_load TOk (by rfl) (by rfl) (by rfl) (fun w1 hw => cells_elem1 hvs hw.below) ?_
    repeat first | refine W_blk ?_ | refine W_region (by rfl) ?_ | refine W_opsnil ?_ | refine W_pure TOk (by rfl) (by first | trivial | (simp only [okI, and_true, true_and, and_self] <;> omega) | omega) ?_
    refine W_inv (k + 1) (by omega) (by omega) ⟨rfl, ?_, rfl, rfl, rfl, trivial⟩ (Ent.refl _)
    rw [hts]
    show some (Value.int _ _) = some (Value.int _ _)
    congr 2
    omega
  · have e : k = L.length := by omega
    subst e
    rw [List.take_length]
    repeat first | refine W_seq ?_ | refine W_exit (by rfl) ?_ | refine W_region (by rfl) ?_ | refine W_opsnil ?_ | refine W_pure TOk (by rfl) (by first | trivial | (simp only [okI, and_true, true_and, and_self] <;> omega) | omega) ?_
    exact W_retF (vs := [_]) ⟨rfl, trivial⟩ (Ent.refl _) ⟨rfl, rfl⟩
def fitV (L : List (List Int)) (lv pv : Value) : Value := if 65536 < runes L then .tuple #[.slice none 0 0, .agg #[.int .i64 0, .int .i64 0], .int .i64 3] else .tuple #[lv, pv, .int .i64 0]
set_option maxHeartbeats 1000000 in
theorem ofits_c (w : World) (A : Option Addr) (c : Nat) (L : List (List Int)) (hl : RowsAt w A L) (hb : L.length + tot L ≤ 1099511627776) (l k : Int) : Val Try.prog 128 [.slice A L.length c, pos l k] w (fitV L (.slice A L.length c) (pos l k)) := by
  refine enterF Try.func128 rfl Try.ntmps128 rfl rfl ?_
  repeat first | refine W_seq ?_ | refine W_region (by rfl) ?_
  refine W_box (cs := [_, _]) (by rfl) (by rfl) (by rfl) (fun b3 => ?_)
  repeat first | refine W_pure TOk (by rfl) (by first | trivial | (simp only [okI, and_true, true_and, and_self] <;> omega) | omega) ?_
  refine W_alloc (cs := [_, _]) TOk (by rfl) (by rfl) (fun b5 => ?_)
  repeat first | refine W_seq ?_ | refine W_region (by rfl) ?_ | refine W_opsnil ?_ | refine W_pure TOk (by rfl) (by first | trivial | (simp only [okI, and_true, true_and, and_self] <;> omega) | omega) ?_
  refine W_callV (by rfl) Try.call126 (by rfl) (fun w1 hw => size_c w1 A c L (hl.below hw.below) hb) ?_
  repeat first | refine W_opsnil ?_ | refine W_pure TOk (by rfl) (by first | trivial | (simp only [okI, and_true, true_and, and_self] <;> omega) | omega) ?_
  unfold fitV
  refine W_cond_d (by rfl) (fun h => ?_) (fun h => ?_)
  · repeat first | refine W_seq ?_ | refine W_region (by rfl) ?_ | refine W_opsnil ?_ | refine W_pure TOk (by rfl) (by first | trivial | (simp only [okI, and_true, true_and, and_self] <;> omega) | omega) ?_ | (refine W_store_box 0 TOk (by rfl) (by rfl) (by rfl) (by rfl) (by rfl) (by rfl) ?_; dsimp only [setL, putL, vcells])
    exact W_retF (vs := [_, _, _]) ⟨rfl, rv_box 0 TOk rfl rfl rfl, rfl, trivial⟩ (Ent.nil _) ⟨by rw [if_pos (by omega)]; rfl, rfl⟩
  · repeat first | refine W_seq ?_ | refine W_skip ?_
    refine W_draw (fun w1 => St _ _ w1 _) [3] [(0, 0), (1, 0), (2, 0), (3, 2), (4, 0)] (by kernel_rfl) (fun _ h => h) (by rfl) (by kernel_rfl) (fun hB => ?_)
    repeat first | refine D_pure TOk (by kernel_rfl) hB (by rfl) (by rfl) (by first | trivial | (simp only [okI, and_true, true_and, and_self] <;> omega) | omega) (fun hB => ?_) | refine D_load_boxN 1 TOk (by kernel_rfl) hB (by rfl) (by rfl) (by rfl) (by rfl) (by rfl) (by rfl) (fun _ h => h) (by rfl) (fun hB => ?_)
    refine D_last hB (by rfl) (fun hB => ?_)
    repeat first | refine W_opsnil ?_ | (refine W_store_box 0 TOk (by rfl) (by rfl) (by rfl) (by rfl) (by rfl) (by rfl) ?_; dsimp only [setL, putL, vcells])
    repeat first | refine D_pure TOk (by kernel_rfl) hB (by rfl) (by rfl) (by first | trivial | (simp only [okI, and_true, true_and, and_self] <;> omega) | omega) (fun hB => ?_) | refine D_done hB ?_
    exact W_retF (vs := [_, _, _]) ⟨rfl, rv_box 0 TOk rfl rfl rfl, rfl, trivial⟩ (Ent.nil _) ⟨by rw [if_neg (by omega)]; rfl, rfl⟩
/-! ### Has a row a line end? -/
set_option maxHeartbeats 1000000 in
theorem Index10_c (w : World) (A : Option Addr) (c : Nat) (xs : List Int) (hx : Cells w A (i32s xs)) (hb : xs.length ≤ 1152921504606846976) : Fresh Try.prog 180 [.slice A xs.length c, .int .i32 10] w (fun v M => ∃ i : Int, v = .int .i64 i ∧ M = [] ∧ (0 ≤ i ↔ noNl xs = false)) := by
  refine enterF Try.func180 rfl Try.ntmps180 rfl rfl ?_
  repeat first | refine W_seq ?_ | refine W_block ?_ | refine W_region (by rfl) ?_ | refine W_opsnil ?_ | refine W_pure TOk (by rfl) (by first | trivial | (simp only [okI, and_true, true_and, and_self] <;> omega) | omega) ?_
  refine W_loop (ι := Nat) (fun i => [(0, .slice A xs.length c), (1, .int .i32 10), (7, .int .i64 (xs.length : Nat)), (8, .int .i64 (i : Nat))]) (fun _ => []) (fun i => i ≤ xs.length ∧ noNl (xs.take i) = true) (fun i => xs.length - i) 0
    ⟨by omega, by simp [noNl]⟩ ⟨rfl, rfl, rfl, rfl, trivial⟩ (Ent.refl _) ?_
  rintro i ⟨hi, hbl⟩
  repeat first | refine W_seq ?_ | refine W_region (by rfl) ?_ | refine W_opsnil ?_ | refine W_pure TOk (by rfl) (by first | trivial | (simp only [okI, and_true, true_and, and_self] <;> omega) | omega) ?_
  refine W_cond_d (by rfl) (fun hlt => ?_) (fun hge => ?_)
  · have hrd := rd_get (xs := xs) (i := (i : Int)) (by omega) hlt
    rw [show ((i : Int)).toNat = i by omega] at hrd
    repeat first | refine W_seq ?_ | refine W_skip ?_ | refine W_block ?_ | refine W_region (by rfl) ?_ | refine W_opsnil ?_ | refine W_pure TOk (by rfl) (by first | trivial | (simp only [okI, and_true, true_and, and_self] <;> omega) | omega) ?_
    refine W_index TOk (by rfl) (by rfl) (by rfl) (by first | exact es48 | exact es22 | exact es136 | exact es150 | exact es223 | exact es29 | exact es132 | exact es207) (by omega) (by omega) (fun w1 hw => (hx.below hw.below).isSome (by rw [i32s_length]; omega)) ?_
    refine W_load TOk (by rfl) (by rfl) (by rfl) (fun w1 hw => (hx.below hw.below).elem1 (i32s_get (by omega) hlt)) ?_
    repeat first | refine W_opsnil ?_ | refine W_pure TOk (by rfl) (by first | trivial | (simp only [okI, and_true, true_and, and_self] <;> omega) | omega) ?_
    refine W_cond_d (by rfl) (fun he => ?_) (fun he => ?_)
    · repeat first | refine W_seq ?_ | refine W_region (by rfl) ?_ | refine W_opsnil ?_ | refine W_pure TOk (by rfl) (by first | trivial | (simp only [okI, and_true, true_and, and_self] <;> omega) | omega) ?_
      refine W_retF (vs := [_]) ⟨rfl, trivial⟩ (M := []) (Ent.refl _) ⟨i, rfl, rfl, fun _ => ?_, fun _ => by omega⟩
      rw [Bool.eq_false_iff]
      exact fun h => noNl_get h hrd he.symm
    · repeat first | refine W_skip ?_ | refine W_blk ?_ | refine W_region (by rfl) ?_ | refine W_opsnil ?_ | refine W_pure TOk (by rfl) (by first | trivial | (simp only [okI, and_true, true_and, and_self] <;> omega) | omega) ?_
      refine W_inv (i + 1) ⟨by omega, ?_⟩ (by omega) ⟨rfl, rfl, rfl, rfl, trivial⟩ (Ent.refl _)
      rw [take_snoc hrd]
      unfold noNl at hbl ⊢
      rw [List.all_append, hbl]
      simp
      exact fun h => he h.symm
  · repeat first | refine W_seq ?_ | refine W_exit (by rfl) ?_ | refine W_region (by rfl) ?_ | refine W_opsnil ?_ | refine W_pure TOk (by rfl) (by first | trivial | (simp only [okI, and_true, true_and, and_self] <;> omega) | omega) ?_
    refine W_retF (vs := [_]) ⟨rfl, trivial⟩ (M := []) (Ent.refl _) ⟨-1, rfl, rfl, fun h => absurd h (by decide), fun h => ?_⟩
    rw [List.take_of_length_le (by omega), h] at hbl
    cases hbl
set_option maxHeartbeats 1000000 in
theorem Contains10_c (w : World) (A : Option Addr) (c : Nat) (xs : List Int) (hx : Cells w A (i32s xs)) (hb : xs.length ≤ 1152921504606846976) : Val Try.prog 125 [.slice A xs.length c, .int .i32 10] w (.bool (!noNl xs)) := by
  refine enterF Try.func125 rfl Try.ntmps125 rfl rfl ?_
  repeat first | refine W_seq ?_ | refine W_region (by rfl) ?_ | refine W_opsnil ?_ | refine W_pure TOk (by rfl) (by first | trivial | (simp only [okI, and_true, true_and, and_self] <;> omega) | omega) ?_
  refine W_call _ (by rfl) Try.call180 (by rfl) (fun w1 hw => Index10_c w1 A c xs (hx.below hw.below) hb) ?_
  rintro _ _ ⟨i, rfl, rfl, hiff⟩
  dsimp only [List.cons_append, List.nil_append]
  repeat first | refine W_opsnil ?_ | refine W_pure TOk (by rfl) (by first | trivial | (simp only [okI, and_true, true_and, and_self] <;> omega) | omega) ?_
  refine W_retF (vs := [_]) ⟨rfl, trivial⟩ (Ent.refl _) ⟨?_, rfl⟩
  show Value.bool _ = Value.bool _
  congr 1
  rw [Bool.eq_iff_iff, decide_eq_true_eq, hiff]
  cases noNl xs <;> simp
end Go.Proofs.Ytdfibmbedjpcgaa
