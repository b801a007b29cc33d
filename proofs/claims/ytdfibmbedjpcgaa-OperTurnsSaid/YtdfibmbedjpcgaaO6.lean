/- Contracts: Cut, the program's and the document's. -/
import Derived.Test.YtdfibmbedjpcgaaO5
set_option linter.unusedVariables false
set_option linter.unusedSimpArgs false
namespace Go.Proofs.Ytdfibmbedjpcgaa
open Go Go.RowKit Eng Ls
attribute [local irreducible] Eng.W

def orOne (L : List (List Int)) : List (List Int) := if L.length = 0 then [[]] else L
/-- What is left, and where one is then. -/
def cutS (L : List (List Int)) (kd : Int) (a b : Nat × Nat) : List (List Int) × (Nat × Nat) :=
  if kd = 1 then
    (orOne (L.take a.1 ++ L.drop (b.1 + 1)), (min a.1 ((orOne (L.take a.1 ++ L.drop (b.1 + 1))).length - 1), firstS (rowN (orOne (L.take a.1 ++ L.drop (b.1 + 1))) (min a.1 ((orOne (L.take a.1 ++ L.drop (b.1 + 1))).length - 1)))))
  else if kd = 0 then
    (L.take a.1 ++ [(gathS cutOut L kd a b (b.1 + 1 - a.1)).flatten] ++ L.drop (b.1 + 1), clipS (L.take a.1 ++ [(gathS cutOut L kd a b (b.1 + 1 - a.1)).flatten] ++ L.drop (b.1 + 1)) (a.1 : Nat) (a.2 : Nat))
  else
    (L.take a.1 ++ gathS cutOut L kd a b (b.1 + 1 - a.1) ++ L.drop (b.1 + 1), clipS (L.take a.1 ++ gathS cutOut L kd a b (b.1 + 1 - a.1) ++ L.drop (b.1 + 1)) (a.1 : Nat) ((min a.2 b.2 : Nat) : Int))
/-- What hands back lines of its own, a place and an error. -/
def LinR (e : Int) (r : List (List Int) × (Nat × Nat)) (v : Value) (M : List Ast) : Prop :=
  (e ≠ 0 ∧ v = .tuple #[.slice none 0 0, pos 0 0, .int .i64 e] ∧ M = []) ∨
  (e = 0 ∧ ∃ A c vs, v = .tuple #[.slice A r.1.length c, posN r.2, .int .i64 0] ∧ vs.length = r.1.length ∧ M = [own 48 1 A r.1.length c vs, rowsA vs r.1])
def CutR (L : List (List Int)) (fl fc tl tc kd : Int) : Value → List Ast → Prop := LinR (regE L fl fc tl tc kd) (cutS L kd (regA fl fc tl tc) (regB fl fc tl tc))
theorem tot_cut (L : List (List Int)) {f t : Nat} (h : f ≤ t) (ht : t ≤ L.length) : tot (L.take f) + tot (L.drop t) ≤ tot L := by
  have h1 := tot_append (L.take f) (L.drop f)
  rw [List.take_append_drop] at h1
  have h2 := tot_drop (L.drop f) (t - f)
  rw [List.drop_drop, show f + (t - f) = t by omega] at h2
  omega
theorem gath_out_tot (L : List (List Int)) (kd : Int) (a b : Nat × Nat) (h : b.1 < L.length) (hle : a.1 ≤ b.1) : tot (gathS cutOut L kd a b (b.1 + 1 - a.1)) ≤ tot L :=
  gathS_tot (fun x f t h1 h2 => by rw [cutOut_len h1 h2]; omega) L kd a b _ (by omega)
set_option maxRecDepth 8000 in
set_option maxHeartbeats 4000000 in
theorem Cut_c (w : World) (A : Option Addr) (c0 : Nat) (L : List (List Int)) (hl : RowsAt w A L) (hc : L.length ≤ c0) (hb : L.length + tot L ≤ 268435456) (fl fc tl tc kd : Int) :
    Fresh Try.prog 52 [.slice A L.length c0, rgV fl fc tl tc kd] w (CutR L fl fc tl tc kd) := by
  refine enterF Try.func52 rfl Try.ntmps52 rfl rfl ?_
  repeat first | refine W_seq ?_ | refine W_region (by rfl) ?_
  refine W_box (cs := [_, _, _, _, _]) (by rfl) (by rfl) (by rfl) (fun b3 => ?_)
  repeat first | refine W_pure TOk (by rfl) (by first | trivial | (simp only [okI, and_true, true_and, and_self] <;> omega) | omega) ?_
  refine W_alloc (cs := [_, _]) TOk (by rfl) (by rfl) (fun b5 => ?_)
  repeat first | refine W_seq ?_ | refine W_region (by rfl) ?_ | refine W_opsnil ?_ | refine W_pure TOk (by rfl) (by first | trivial | (simp only [okI, and_true, true_and, and_self] <;> omega) | omega) ?_ | refine W_load_boxN 1 TOk (by rfl) (by rfl) (by rfl) (by rfl) (by rfl) ?_
  refine W_call _ (by rfl) Try.call112 (by rfl) (fun w1 hw => at_c w1 A c0 L (hl.below hw.below) (by omega) fl fc tl tc kd) ?_
  rintro _ _ ⟨_, rfl, rfl, ⟨c1, c2, c3, c4, c5, rfl⟩, hav⟩
  dsimp only [List.cons_append, List.nil_append]
  repeat first | refine W_pure TOk (by rfl) (by first | trivial | (simp only [okI, and_true, true_and, and_self] <;> omega) | omega) ?_
  refine W_alloc (cs := [_, _, _, _, _]) TOk (by rfl) (by rfl) (fun b7 => ?_)
  repeat first | refine W_seq ?_ | refine W_region (by rfl) ?_ | refine W_opsnil ?_ | refine W_pure TOk (by rfl) (by first | trivial | (simp only [okI, and_true, true_and, and_self] <;> omega) | omega) ?_ | (refine W_store_box 0 TOk (by rfl) (by rfl) (by rfl) (by rfl) (by rfl) (by rfl) ?_; dsimp only [setL, putL, vcells])
  refine W_cond_nd (by rfl) (fun hne => ?_) (fun he => ?_)
  · repeat first | refine W_seq ?_ | refine W_region (by rfl) ?_ | refine W_opsnil ?_ | refine W_pure TOk (by rfl) (by first | trivial | (simp only [okI, and_true, true_and, and_self] <;> omega) | omega) ?_ | (refine W_store_box 1 TOk (by rfl) (by rfl) (by rfl) (by rfl) (by rfl) (by rfl) ?_; dsimp only [setL, putL, vcells])
    exact W_retF (vs := [_, _, _]) ⟨rfl, rv_box 1 TOk rfl rfl rfl, rfl, trivial⟩ (M := []) (Ent.nil _) (.inl ⟨hne, rfl, rfl⟩)
  · have hav := hav he
    obtain ⟨hok, heq⟩ := regOk he
    unfold areaV at hav
    injection hav with hav
    injection hav with hav
    simp only [List.cons.injEq, Value.int.injEq, true_and, and_true] at hav
    obtain ⟨e1, rfl, rfl, rfl, rfl⟩ := hav
    have e1' := e1.symm
    subst e1'
    unfold CutR
    generalize regA fl fc tl tc = a at *
    generalize regB fl fc tl tc = b at *
    rw [he]
    have hkd := hok.kd
    have hle := hok.le
    have hlt := hok.lt
    have hcut := tot_cut L (f := a.1) (t := b.1 + 1) (by omega) (by omega)
    have hgt := gath_out_tot L kd a b hlt hle
    have hgl := gathS_length cutOut L kd a b (b.1 + 1 - a.1)
    have htl : (L.take a.1).length = a.1 := by rw [List.length_take]; omega
    have hdl : (L.drop (b.1 + 1)).length = L.length - (b.1 + 1) := List.length_drop ..
    have hca := hok.ca
    have hcb := hok.cb
    have hra := rowN_len (xss := L) (i := a.1) (by omega)
    have hrb := rowN_len (xss := L) (i := b.1) (by omega)
    repeat first | refine W_seq ?_ | refine W_skip ?_ | refine W_region (by rfl) ?_ | refine W_pure TOk (by rfl) (by first | trivial | (simp only [okI, and_true, true_and, and_self] <;> omega) | omega) ?_ | refine W_load_boxN 0 TOk (by rfl) (by rfl) (by rfl) (by rfl) (by rfl) ?_
    refine W_call _ (by rfl) Try.call113 (by rfl) (fun w1 hw => gather_c w1 119 cutOut Try.call119 (fun w2 hb2 B c x f t h1 h2 h3 h4 h5 => CutF_c w2 B c x f t h1 h2 h3 h4 h5) (fun x f t h1 h2 => by rw [cutOut_len h1 h2]; omega) A c0 L (hl.below hw.below) (by omega) kd a b hok) ?_
    rintro _ _ ⟨A2, c2, vsr, rfl, hvr, rfl⟩
    dsimp only [List.cons_append, List.nil_append]
    repeat first | refine W_seq ?_ | refine W_region (by rfl) ?_ | refine W_opsnil ?_ | refine W_pure TOk (by rfl) (by first | trivial | (simp only [okI, and_true, true_and, and_self] <;> omega) | omega) ?_ | refine W_load_boxN 2 TOk (by rfl) (by rfl) (by rfl) (by rfl) (by rfl) ?_
    refine W_alloc (cs := [_, _]) TOk (by rfl) (by rfl) (fun b10 => ?_)
    repeat first | refine W_seq ?_ | refine W_block ?_ | refine W_region (by rfl) ?_ | refine W_opsnil ?_ | refine W_pure TOk (by rfl) (by first | trivial | (simp only [okI, and_true, true_and, and_self] <;> omega) | omega) ?_ | refine W_load_box 5 TOk (by rfl) (by rfl) (by rfl) (by rfl) (by rfl) ?_ | (refine W_store_box 0 TOk (by rfl) (by rfl) (by rfl) (by rfl) (by rfl) (by rfl) ?_; dsimp only [setL, putL, vcells])
    rcases (show kd = 0 ∨ kd = 1 ∨ kd = 2 by omega) with rfl | rfl | rfl
    · have ec : cutS L 0 a b = (L.take a.1 ++ [(gathS cutOut L 0 a b (b.1 + 1 - a.1)).flatten] ++ L.drop (b.1 + 1), clipS (L.take a.1 ++ [(gathS cutOut L 0 a b (b.1 + 1 - a.1)).flatten] ++ L.drop (b.1 + 1)) (a.1 : Nat) (a.2 : Nat)) := rfl
      rw [ec]
      generalize gathS cutOut L 0 a b (b.1 + 1 - a.1) = G at *
      have hfl := flat_len G
      repeat first | refine W_seq ?_ | refine W_region (by rfl) ?_ | refine W_opsnil ?_ | refine W_pure TOk (by rfl) (by first | trivial | (simp only [okI, and_true, true_and, and_self] <;> omega) | omega) ?_ | refine W_cond_t (by rfl) ?_ | refine W_cond_f (by rfl) ?_
      refine W_call _ (by rfl) Try.call120 (by rfl) (fun w1 hw => Concat_c w1 A2 c2 G (rows_of hw.hp 1 2 rfl rfl hvr) (by omega)) ?_; rintro _ _ ⟨A3, c3, rfl, rfl⟩; dsimp only [List.cons_append, List.nil_append]
      refine W_lit TOk (cs := [_]) (by rfl) (by first | exact sl48 | exact sl22 | exact sl136 | exact sl150 | exact sl223 | exact sl29 | exact sl132 | exact sl207) (by rfl) (by rfl) (by rfl) (by rfl) (fun g1 => ?_)
      repeat first | refine W_seq ?_ | refine W_blk ?_ | refine W_region (by rfl) ?_ | refine W_opsnil ?_ | refine W_pure TOk (by rfl) (by first | trivial | (simp only [okI, and_true, true_and, and_self] <;> omega) | omega) ?_ | refine W_load_box 5 TOk (by rfl) (by rfl) (by rfl) (by rfl) (by rfl) ?_
      refine W_call _ (by rfl) Try.call121 (by rfl) (fun w1 hw => put_c w1 A c0 L (hl.below hw.below) hc (by omega) a.1 (b.1 + 1) (by omega) (by omega) (some ⟨g1, 0, none⟩) 1 1 [.slice A3 G.flatten.length c3] (hw.hp.cells 0 rfl) rfl (by first | exact i32s_one _ | exact i64s_one _ | exact one_of _ rfl) (by omega)) ?_
      rintro _ _ ⟨A5, c5, vs1, vs2, rfl, hv1, hv2, rfl⟩
      dsimp only [List.cons_append, List.nil_append]
      refine W_ent ((Ent.sel [0, 0, 2, 0, 1, 3, 3, 3] _ (by rfl))) ?_
      refine W_ent (Ent.cons _ (Ent.cons _ (Ent.rowA_in A3 c3 G.flatten _))) ?_
      refine W_ent (Ent.cons _ (Ent.rowsA_snoc (by rw [hv1, htl]) _ _ _)) ?_
      refine W_ent (Ent.cons _ (Ent.rowsA_app (by rw [List.length_append, List.length_append, hv1, htl]; rfl) _)) ?_
      have hout : (L.take a.1 ++ [G.flatten] ++ L.drop (b.1 + 1)).length = a.1 + 1 + (L.length - (b.1 + 1)) := by rw [List.length_append, List.length_append, htl, hdl]; rfl
      have htot : tot (L.take a.1 ++ [G.flatten] ++ L.drop (b.1 + 1)) ≤ 2 * tot L := by rw [tot_append, tot_append]; simp only [tot]; omega
      generalize L.take a.1 ++ [G.flatten] ++ L.drop (b.1 + 1) = O at *
      have hvo : (vs1 ++ [Value.slice A3 G.flatten.length c3] ++ vs2).length = O.length := by rw [hout, List.length_append, List.length_append, hv1, hv2]; rfl
      rw [← hout]
      generalize vs1 ++ [Value.slice A3 G.flatten.length c3] ++ vs2 = vo at *
      repeat first | refine W_seq ?_ | refine W_region (by rfl) ?_ | refine W_opsnil ?_ | refine W_pure TOk (by rfl) (by first | trivial | (simp only [okI, and_true, true_and, and_self] <;> omega) | omega) ?_ | refine W_load_boxN 2 TOk (by rfl) (by rfl) (by rfl) (by rfl) (by rfl) ?_
      refine W_callV (by rfl) Try.call123 (by rfl) (fun w1 hw => Clip_c w1 A5 c5 O (rows_of hw.hp 0 1 rfl rfl hvo) (by omega) a.1 a.2) ?_
      repeat first | refine W_opsnil ?_ | refine W_pure TOk (by rfl) (by first | trivial | (simp only [okI, and_true, true_and, and_self] <;> omega) | omega) ?_ | (refine W_store_box 4 TOk (by rfl) (by rfl) (by rfl) (by rfl) (by rfl) (by rfl) ?_; dsimp only [setL, putL, vcells])
      exact W_retF (vs := [_, _, _]) ⟨rfl, rv_box 4 TOk rfl rfl rfl, rfl, trivial⟩ (M := [own 48 1 A5 O.length c5 vo, rowsA vo O]) (Ent.sel [0, 0] _ (by rfl)) (.inr ⟨rfl, A5, c5, vo, rfl, hvo, rfl⟩)
    · have ec : cutS L 1 a b = (orOne (L.take a.1 ++ L.drop (b.1 + 1)), (min a.1 ((orOne (L.take a.1 ++ L.drop (b.1 + 1))).length - 1), firstS (rowN (orOne (L.take a.1 ++ L.drop (b.1 + 1))) (min a.1 ((orOne (L.take a.1 ++ L.drop (b.1 + 1))).length - 1))))) := rfl
      rw [ec]
      repeat first | refine W_seq ?_ | refine W_region (by rfl) ?_ | refine W_pure TOk (by rfl) (by first | trivial | (simp only [okI, and_true, true_and, and_self] <;> omega) | omega) ?_ | refine W_cond_t (by rfl) ?_ | refine W_load_box 3 TOk (by rfl) (by rfl) (by rfl) (by rfl) (by rfl) ?_
      refine W_call _ (by rfl) Try.call121 (by rfl) (fun w1 hw => put_c w1 A c0 L (hl.below hw.below) hc (by omega) a.1 (b.1 + 1) (by omega) (by omega) none 0 0 [] (Cells.nil _ _) rfl (by simp) (by omega)) ?_
      rintro _ _ ⟨A5, c5, vs1, vs2, rfl, hv1, hv2, rfl⟩
      dsimp only [List.cons_append, List.nil_append]
      rw [List.append_nil]
      refine W_ent ((Ent.sel [0, 0, 0, 0, 2, 2, 2] _ (by rfl))) ?_
      refine W_ent (Ent.cons _ (Ent.rowsA_app (by rw [hv1, htl]) _)) ?_
      have hout : (L.take a.1 ++ L.drop (b.1 + 1)).length = a.1 + 0 + (L.length - (b.1 + 1)) := by rw [List.length_append, htl, hdl]; rfl
      have htot : tot (L.take a.1 ++ L.drop (b.1 + 1)) ≤ 2 * tot L := by rw [tot_append]; omega
      generalize L.take a.1 ++ L.drop (b.1 + 1) = O at *
      have hvo : (vs1 ++ vs2).length = O.length := by rw [hout, List.length_append, hv1, hv2]; omega
      rw [← hout]
      generalize vs1 ++ vs2 = vo at *
      unfold orOne
      repeat first | refine W_seq ?_ | refine W_region (by rfl) ?_ | refine W_opsnil ?_ | refine W_pure TOk (by rfl) (by first | trivial | (simp only [okI, and_true, true_and, and_self] <;> omega) | omega) ?_
      refine W_cond_d (by rfl) (fun hz => ?_) (fun hz => ?_)
      · rw [if_pos (show O.length = 0 by omega)]
        have hm : min a.1 (([[]] : List (List Int)).length - 1) = 0 := by simp
        rw [hm]
        repeat first | refine W_region (by rfl) ?_
        refine W_make TOk (by rfl) (by rfl) (by rfl) sl22 (by omega) (by omega) (by omega) (by omega) (fun g => ?_)
        rw [nil_flat]
        refine W_ent (((Ent.sel [0, 2, 2, 2, 2] _ (by rfl))).trans (Ent.cons _ ((Ent.own_zero 21 1 none _).trans ((Ent.rowA_in none 0 [] _).trans (Ent.one_seps _ _))))) ?_
        have hmin : minI ((a.1 : Nat) : Int) ((1 : Int) - 1) = ((0 : Nat) : Int) := by unfold minI; split <;> omega
        repeat first | refine W_seq ?_ | refine W_region (by rfl) ?_ | refine W_opsnil ?_ | refine W_pure TOk (by rfl) (by first | trivial | (simp only [okI, and_true, true_and, and_self] <;> omega) | omega) ?_ | refine W_load_box 2 TOk (by rfl) (by rfl) (by rfl) (by rfl) (by rfl) ?_
        rw [show minI ((a.1 : Nat) : Int) (((Int.toNat 1 : Nat) : Int) - 1) = ((0 : Nat) : Int) from hmin]
        refine W_callV (by rfl) Try.call122 (by rfl) (fun w1 hw => first_c w1 (some ⟨g, 0, none⟩) 1 [[]] (rows_of (vs := [.slice none 0 0]) hw.hp 0 1 rfl rfl rfl) (by decide) 0 (by decide)) ?_
        repeat first | refine W_opsnil ?_ | refine W_pure TOk (by rfl) (by first | trivial | (simp only [okI, and_true, true_and, and_self] <;> omega) | omega) ?_ | (refine W_store_box 4 TOk (by rfl) (by rfl) (by rfl) (by rfl) (by rfl) (by rfl) ?_; dsimp only [setL, putL, vcells])
        exact W_retF (vs := [_, _, _]) ⟨rfl, rv_box 4 TOk rfl rfl rfl, rfl, trivial⟩ (M := [own 48 1 (some ⟨g, 0, none⟩) 1 1 [.slice none 0 0], rowsA [.slice none 0 0] [[]]]) (Ent.sel [0, 0] _ (by rfl)) (.inr ⟨rfl, _, _, _, rfl, rfl, rfl⟩)
      · rw [if_neg (show ¬ O.length = 0 by omega)]
        repeat first | refine W_seq ?_ | refine W_skip ?_ | refine W_region (by rfl) ?_ | refine W_pure TOk (by rfl) (by first | trivial | (simp only [okI, and_true, true_and, and_self] <;> omega) | omega) ?_ | refine W_load_box 2 TOk (by rfl) (by rfl) (by rfl) (by rfl) (by rfl) ?_
        have hmin : minI ((a.1 : Nat) : Int) (((O.length : Nat) : Int) - 1) = ((min a.1 (O.length - 1) : Nat) : Int) := by unfold minI; split <;> omega
        rw [hmin]
        refine W_callV (by rfl) Try.call122 (by rfl) (fun w1 hw => first_c w1 A5 c5 O (rows_of hw.hp 0 1 rfl rfl hvo) (by omega) (min a.1 (O.length - 1)) (by omega)) ?_
        repeat first | refine W_opsnil ?_ | refine W_pure TOk (by rfl) (by first | trivial | (simp only [okI, and_true, true_and, and_self] <;> omega) | omega) ?_ | (refine W_store_box 4 TOk (by rfl) (by rfl) (by rfl) (by rfl) (by rfl) (by rfl) ?_; dsimp only [setL, putL, vcells])
        exact W_retF (vs := [_, _, _]) ⟨rfl, rv_box 4 TOk rfl rfl rfl, rfl, trivial⟩ (M := [own 48 1 A5 O.length c5 vo, rowsA vo O]) (Ent.sel [0, 0] _ (by rfl)) (.inr ⟨rfl, A5, c5, vo, rfl, hvo, rfl⟩)
    · have ec : cutS L 2 a b = (L.take a.1 ++ gathS cutOut L 2 a b (b.1 + 1 - a.1) ++ L.drop (b.1 + 1), clipS (L.take a.1 ++ gathS cutOut L 2 a b (b.1 + 1 - a.1) ++ L.drop (b.1 + 1)) (a.1 : Nat) ((min a.2 b.2 : Nat) : Int)) := rfl
      rw [ec]
      generalize gathS cutOut L 2 a b (b.1 + 1 - a.1) = G at *
      refine W_rowsOne 2 (by rfl) hvr (fun h1r => ?_)
      repeat first | refine W_seq ?_ | refine W_blk ?_ | refine W_region (by rfl) ?_ | refine W_opsnil ?_ | refine W_pure TOk (by rfl) (by first | trivial | (simp only [okI, and_true, true_and, and_self] <;> omega) | omega) ?_ | refine W_cond_f (by rfl) ?_ | refine W_load_box 0 TOk (by rfl) (by rfl) (by rfl) (by rfl) (by rfl) ?_ | refine W_load_box 3 TOk (by rfl) (by rfl) (by rfl) (by rfl) (by rfl) ?_ | (refine W_store_box 0 TOk (by rfl) (by rfl) (by rfl) (by rfl) (by rfl) (by rfl) ?_; dsimp only [setL, putL, vcells])
      rw [min_nat]
      refine W_call _ (by rfl) Try.call121 (by rfl) (fun w1 hw => put_c w1 A c0 L (hl.below hw.below) hc (by omega) a.1 (b.1 + 1) (by omega) (by omega) A2 G.length c2 vsr (hw.hp.cells 1 rfl) hvr h1r (by omega)) ?_
      rintro _ _ ⟨A5, c5, vs1, vs2, rfl, hv1, hv2, rfl⟩
      dsimp only [List.cons_append, List.nil_append]
      refine W_ent ((Ent.sel [0, 0, 3, 0, 0, 1, 1, 1] _ (by rfl))) ?_
      refine W_ent (Ent.cons _ (Ent.rowsA_app (by rw [hv1, htl]) _)) ?_
      refine W_ent (Ent.cons _ (Ent.rowsA_app (by rw [List.length_append, List.length_append, hv1, htl, hvr]) _)) ?_
      have hout : (L.take a.1 ++ G ++ L.drop (b.1 + 1)).length = a.1 + G.length + (L.length - (b.1 + 1)) := by rw [List.length_append, List.length_append, htl, hdl]
      have htot : tot (L.take a.1 ++ G ++ L.drop (b.1 + 1)) ≤ 2 * tot L := by rw [tot_append, tot_append]; omega
      generalize L.take a.1 ++ G ++ L.drop (b.1 + 1) = O at *
      have hvo : (vs1 ++ vsr ++ vs2).length = O.length := by rw [hout, List.length_append, List.length_append, hv1, hv2, hvr]
      rw [← hout]
      generalize vs1 ++ vsr ++ vs2 = vo at *
      repeat first | refine W_seq ?_ | refine W_region (by rfl) ?_ | refine W_opsnil ?_ | refine W_pure TOk (by rfl) (by first | trivial | (simp only [okI, and_true, true_and, and_self] <;> omega) | omega) ?_ | refine W_load_boxN 2 TOk (by rfl) (by rfl) (by rfl) (by rfl) (by rfl) ?_
      refine W_callV (by rfl) Try.call123 (by rfl) (fun w1 hw => Clip_c w1 A5 c5 O (rows_of hw.hp 0 1 rfl rfl hvo) (by omega) a.1 ((min a.2 b.2 : Nat) : Int)) ?_
      repeat first | refine W_opsnil ?_ | refine W_pure TOk (by rfl) (by first | trivial | (simp only [okI, and_true, true_and, and_self] <;> omega) | omega) ?_ | (refine W_store_box 4 TOk (by rfl) (by rfl) (by rfl) (by rfl) (by rfl) (by rfl) ?_; dsimp only [setL, putL, vcells])
      exact W_retF (vs := [_, _, _]) ⟨rfl, rv_box 4 TOk rfl rfl rfl, rfl, trivial⟩ (M := [own 48 1 A5 O.length c5 vo, rowsA vo O]) (Ent.sel [0, 0] _ (by rfl)) (.inr ⟨rfl, A5, c5, vo, rfl, hvo, rfl⟩)
end Go.Proofs.Ytdfibmbedjpcgaa
