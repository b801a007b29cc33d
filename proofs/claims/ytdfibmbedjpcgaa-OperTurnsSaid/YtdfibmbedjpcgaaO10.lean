/- Contracts: characters put into lines. -/
import Derived.Test.YtdfibmbedjpcgaaO9
set_option linter.unusedVariables false
set_option linter.unusedSimpArgs false
namespace Go.Proofs.Ytdfibmbedjpcgaa
open Go Go.RowKit Eng Ls
attribute [local irreducible] Eng.W

theorem putL_set : ∀ (vs : List Value) (k : Nat) (v : Value), putL vs k [v] = vs.set k v
  | [], k, v => by cases k <;> rfl
  | _ :: vs, 0, v => by simp [putL, putL_nil]
  | a :: vs, k + 1, v => by simp [putL, putL_set vs k v]
theorem dropc (y : List Int) (t : Nat) : (y.drop t).take (y.length - t) = y.drop t := by rw [List.take_of_length_le (by simp)]
theorem dropr (L : List (List Int)) (t : Nat) : (L.drop t).take (L.length - t) = L.drop t := by rw [List.take_of_length_le (by simp)]
set_option maxRecDepth 8000 in
set_option maxHeartbeats 16000000 in
theorem Paste_h (w : World) (A : Option Addr) (c0 : Nat) (L : List (List Int)) (hl : RowsAt w A L) (hc : L.length ≤ c0) (hb : L.length + tot L ≤ 268435456) (l k : Int) (AG : Option Addr) (cG : Nat) (G : List (List Int)) (hG : RowsAt w AG G) (hGc : G.length ≤ cG) (hGb : G.length + tot G ≤ 268435456) (bh : Bool) (n : Nat)
    (hG0 : 0 < G.length) (hpl : plainL G = true) (hL0 : 0 < L.length) (hn1 : 1 ≤ n) (hr0 : 0 < runes G) (hnb : n * runes G ≤ 65536) :
    Fresh Try.prog 55 [.slice A L.length c0, pos l k, .agg #[.int .i64 0, .slice AG G.length cG], .bool bh, .int .i64 (n : Nat)] w (LinR (fitE (charP L l k bh n (rowN G 0) (G.drop 1)).1) (charP L l k bh n (rowN G 0) (G.drop 1))) := by
  have hru : runes G = G.length - 1 + tot G := rfl
  have hp1 := clipS_lt (l := l) (c := k) hL0
  have hp2 := clipS_col L l k
  have hcle := colP_le L l k bh
  have hrl := rowN_len (xss := L) (i := (clipS L l k).1) hp1
  obtain ⟨hq, hq0, hq1⟩ := quo_ge0 hr0 hnb
  have hch : charP L l k bh n (rowN G 0) (G.drop 1) =
    (L.take (clipS L l k).1 ++ (stepsP (rowN G 0) (G.drop 1) ((rowN L (clipS L l k).1).take (colP L l k bh)) n).set ((stepsP (rowN G 0) (G.drop 1) ((rowN L (clipS L l k).1).take (colP L l k bh)) n).length - 1) (lastN (stepsP (rowN G 0) (G.drop 1) ((rowN L (clipS L l k).1).take (colP L l k bh)) n) ++ (rowN L (clipS L l k).1).drop (colP L l k bh)) ++ L.drop ((clipS L l k).1 + 1),
     clipS (L.take (clipS L l k).1 ++ (stepsP (rowN G 0) (G.drop 1) ((rowN L (clipS L l k).1).take (colP L l k bh)) n).set ((stepsP (rowN G 0) (G.drop 1) ((rowN L (clipS L l k).1).take (colP L l k bh)) n).length - 1) (lastN (stepsP (rowN G 0) (G.drop 1) ((rowN L (clipS L l k).1).take (colP L l k bh)) n) ++ (rowN L (clipS L l k).1).drop (colP L l k bh)) ++ L.drop ((clipS L l k).1 + 1)) ((clipS L l k).1 : Nat)
      (if 1 < (stepsP (rowN G 0) (G.drop 1) ((rowN L (clipS L l k).1).take (colP L l k bh)) n).length then ((colP L l k bh : Nat) : Int) else if 0 < (rowN G 0).length then (((lastN (stepsP (rowN G 0) (G.drop 1) ((rowN L (clipS L l k).1).take (colP L l k bh)) n)).length : Nat) : Int) - 1 else (((clipS L l k).2 : Nat) : Int))) := rfl
  rw [hch]
  clear hch
  have hcol : colP L l k bh = if bh = true ∧ 0 < (rowN L (clipS L l k).1).length then (clipS L l k).2 + 1 else (clipS L l k).2 := rfl
  have hclip := fun (w1 : World) (hw : Below w.heap.size w w1) => Clip_c w1 A c0 L (hl.below hw) (by omega) l k
  obtain ⟨B, cB, hcB, hB_, hvs⟩ := hl.row (i := (((clipS L l k).1 : Nat) : Int)) (by omega) (by omega)
  rw [rowN_rw] at hvs hB_ hcB
  generalize colP L l k bh = col at *
  generalize clipS L l k = p at *
  generalize hxr : rowN L p.1 = x at *
  obtain ⟨B0, cB0, hcB0, hB0, hvs0⟩ := hG.row (i := ((0 : Nat) : Int)) (by omega) (by omega)
  rw [rowN_rw] at hvs0 hB0 hcB0
  have hg0 := rowN_get (xss := G) (i := 0) hG0
  have hgt : tot G = (rowN G 0).length + tot (G.drop 1) := by
    have h1 := tot_append (G.take 1) (G.drop 1)
    rw [List.take_append_drop] at h1
    have h2 := tot_snoc hg0
    simp [tot] at h2
    omega
  have hgl : (G.drop 1).length = G.length - 1 := List.length_drop ..
  refine enterF Try.func55 rfl Try.ntmps55 rfl rfl ?_
  repeat first | refine W_seq ?_ | refine W_region (by rfl) ?_
  refine W_box (cs := [_, _]) (by rfl) (by rfl) (by rfl) (fun b6 => ?_)
  refine W_box (cs := [_, _]) (by rfl) (by rfl) (by rfl) (fun b7 => ?_)
  repeat first | refine W_pure TOk (by rfl) (by first | trivial | (simp only [okI, and_true, true_and, and_self] <;> omega) | omega) ?_
  refine W_alloc (cs := [_, _]) TOk (by rfl) (by rfl) (fun b11 => ?_)
  repeat first | refine W_seq ?_ | refine W_block ?_ | refine W_region (by rfl) ?_ | refine W_opsnil ?_ | refine W_pure TOk (by rfl) (by first | trivial | (simp only [okI, and_true, true_and, and_self] <;> omega) | omega) ?_ | refine W_on (by rfl) (by rfl) (by rfl) ?_ | refine W_load_box 1 TOk (by rfl) (by rfl) (by rfl) (by rfl) (by rfl) ?_
  rw [decide_eq_false (show ¬ ((G.length : Nat) : Int) = 0 by omega)]
  refine W_loop (ι := Nat × Nat) (fun q => [(0, .slice A L.length c0), (3, .bool bh), (4, .int .i64 (n : Nat)), (6, .pointer (some ⟨b6, 0, none⟩)), (7, .pointer (some ⟨b7, 0, none⟩)), (11, .pointer (some ⟨b11, 0, none⟩)), (13, .int .i64 (q.2 : Nat)), (14, .bool false), (44, .slice AG G.length cG), (45, .int .i64 (G.length : Nat)), (46, .int .i64 (q.1 : Nat))])
    (fun q => [box b11 43 [.int .i64 0, .int .i64 0], box b7 54 [.int .i64 0, .slice AG G.length cG], box b6 43 [.int .i64 l, .int .i64 k]]) (fun q => q.1 ≤ G.length ∧ q.2 ≤ 268435456) (fun q => G.length - q.1) (0, 0) ⟨by dsimp only; omega, by decide⟩ ⟨rfl, rfl, rfl, rfl, rfl, rfl, rfl, rfl, rfl, rfl, rfl, trivial⟩ (Ent.refl _) ?_
  rintro ⟨j, wd⟩ ⟨hj, hwd⟩
  dsimp only at hj hwd ⊢
  repeat first | refine W_seq ?_ | refine W_region (by rfl) ?_ | refine W_opsnil ?_ | refine W_pure TOk (by rfl) (by first | trivial | (simp only [okI, and_true, true_and, and_self] <;> omega) | omega) ?_
  refine W_cond_d (by rfl) (fun hlt => ?_) (fun hge => ?_)
  · obtain ⟨B, cB, hcB, hB_, hvs⟩ := hG.row (i := (j : Int)) (by omega) hlt
    rw [rowN_rw] at hvs hB_ hcB
    have hgl := rowN_len (xss := G) (i := j) (by omega)
    have hnn := plain_row hpl (k := j) (by omega)
    repeat first | refine W_seq ?_ | refine W_skip ?_ | refine W_block ?_ | refine W_region (by rfl) ?_
    refine W_index TOk (by rfl) (by rfl) (by rfl) (by first | exact es48 | exact es22 | exact es136 | exact es150 | exact es223 | exact es29 | exact es132 | exact es207) (by omega) (by omega) (fun w1 hw => (hG.below hw.below).isSome (by omega)) ?_
    refine W_load TOk (by rfl) (by rfl) (by rfl) (fun w1 hw => cells_elem1 hvs hw.below) ?_
    repeat first | refine W_seq ?_ | refine W_region (by rfl) ?_ | refine W_opsnil ?_ | refine W_pure TOk (by rfl) (by first | trivial | (simp only [okI, and_true, true_and, and_self] <;> omega) | omega) ?_ | refine W_on (by rfl) (by rfl) (by rfl) ?_
    refine W_callV (by rfl) Try.call125 (by rfl) (fun w1 hw => Contains10_c w1 B cB (rowN G j) (hB_.below hw.below) (by omega)) ?_
    rw [hnn]
    repeat first | refine W_blk ?_ | refine W_region (by rfl) ?_ | refine W_opsnil ?_ | refine W_pure TOk (by rfl) (by first | trivial | (simp only [okI, and_true, true_and, and_self] <;> omega) | omega) ?_
    rw [max_nat]
    exact W_inv (j + 1, max wd (rowN G j).length) ⟨by dsimp only; omega, by dsimp only; omega⟩ (by dsimp only; omega) ⟨rfl, rfl, rfl, rfl, rfl, rfl, rfl, rfl, rfl, rfl, rfl, trivial⟩ (Ent.refl _)
  · repeat first | refine W_seq ?_ | refine W_skip ?_ | refine W_exit (by rfl) ?_ | refine W_region (by rfl) ?_ | refine W_opsnil ?_ | refine W_pure TOk (by rfl) (by first | trivial | (simp only [okI, and_true, true_and, and_self] <;> omega) | omega) ?_ | refine W_cond_f (by rfl) ?_
    refine W_cond_d (by rfl) (fun h => absurd h (by omega)) (fun _ => ?_)
    repeat first | refine W_seq ?_ | refine W_skip ?_ | refine W_region (by rfl) ?_ | refine W_pure TOk (by rfl) (by first | trivial | (simp only [okI, and_true, true_and, and_self] <;> omega) | omega) ?_ | refine W_load_boxN 2 TOk (by rfl) (by rfl) (by rfl) (by rfl) (by rfl) ?_
    refine W_callV (by rfl) Try.call123 (by rfl) (fun w1 hw => hclip w1 hw.below) ?_
    repeat first | refine W_seq ?_ | refine W_region (by rfl) ?_ | refine W_opsnil ?_ | refine W_pure TOk (by rfl) (by first | trivial | (simp only [okI, and_true, true_and, and_self] <;> omega) | omega) ?_ | refine W_load_box 1 TOk (by rfl) (by rfl) (by rfl) (by rfl) (by rfl) ?_ | (refine W_store_box 2 TOk (by rfl) (by rfl) (by rfl) (by rfl) (by rfl) (by rfl) ?_; dsimp only [setL, putL, vcells])
    rw [show maxI 1 ((n : Nat) : Int) = ((n : Nat) : Int) by unfold maxI; split <;> omega]
    refine W_callV (by rfl) Try.call126 (by rfl) (fun w1 hw => size_c w1 AG cG G (hG.below hw.below) (by omega)) ?_
    repeat first | refine W_seq ?_ | refine W_skip ?_ | refine W_block ?_ | refine W_blk ?_ | refine W_region (by rfl) ?_ | refine W_opsnil ?_ | refine W_pure TOk (by rfl) (by first | trivial | (simp only [okI, and_true, true_and, and_self] <;> omega) | omega) ?_ | refine W_cond_f (by rfl) ?_ | refine W_load_box 1 TOk (by rfl) (by rfl) (by rfl) (by rfl) (by rfl) ?_
    refine W_cond_d (by rfl) (fun h => absurd h (by omega)) (fun _ => ?_)
    repeat first | refine W_seq ?_ | refine W_region (by rfl) ?_ | refine W_opsnil ?_ | refine W_pure TOk (by rfl) (by first | trivial | (simp only [okI, and_true, true_and, and_self] <;> omega) | omega) ?_
    refine W_cond_d (by rfl) (fun h => absurd h hq) (fun _ => ?_)
    repeat first | refine W_seq ?_ | refine W_skip ?_ | refine W_region (by rfl) ?_ | refine W_opsnil ?_ | refine W_pure TOk (by rfl) (by first | trivial | (simp only [okI, and_true, true_and, and_self] <;> omega) | omega) ?_ | refine W_load_box 2 TOk (by rfl) (by rfl) (by rfl) (by rfl) (by rfl) ?_
    refine W_dec 97 (by rfl) (fun hbh => ?_) (fun hbh => ?_)
    · repeat first | refine W_pure TOk (by rfl) (by first | trivial | (simp only [okI, and_true, true_and, and_self] <;> omega) | omega) ?_ | refine W_on (by rfl) (by rfl) (by rfl) ?_ | refine W_load_box 2 TOk (by rfl) (by rfl) (by rfl) (by rfl) (by rfl) ?_
      refine W_index TOk (by rfl) (by rfl) (by rfl) (by first | exact es48 | exact es22 | exact es136 | exact es150 | exact es223 | exact es29 | exact es132 | exact es207) (by omega) (by omega) (fun w1 hw => (hl.below hw.below).isSome (by omega)) ?_
      repeat first | refine W_on (by rfl) (by rfl) (by rfl) ?_
      refine W_load TOk (by rfl) (by rfl) (by rfl) (fun w1 hw => cells_elem1 hvs hw.below) ?_
      repeat first | refine W_opsnil ?_ | refine W_pure TOk (by rfl) (by first | trivial | (simp only [okI, and_true, true_and, and_self] <;> omega) | omega) ?_ | refine W_on (by rfl) (by rfl) (by rfl) ?_
      refine W_cond_d (by rfl) (fun hpos => ?_) (fun hpos => ?_)
      · have hc1 : ((p.2 : Nat) : Int) + 1 = ((col : Nat) : Int) := by rw [hcol, if_pos ⟨hbh, by omega⟩]; rfl
        repeat first | refine W_seq ?_ | refine W_skip ?_ | refine W_block ?_ | refine W_blk ?_ | refine W_region (by rfl) ?_ | refine W_opsnil ?_ | refine W_pure TOk (by rfl) (by first | trivial | (simp only [okI, and_true, true_and, and_self] <;> omega) | omega) ?_ | refine W_cond_f (by rfl) ?_ | refine W_load_box 1 TOk (by rfl) (by rfl) (by rfl) (by rfl) (by rfl) ?_ | refine W_load_box 2 TOk (by rfl) (by rfl) (by rfl) (by rfl) (by rfl) ?_
        rw [hc1]
        refine W_index TOk (by rfl) (by rfl) (by rfl) (by first | exact es48 | exact es22 | exact es136 | exact es150 | exact es223 | exact es29 | exact es132 | exact es207) (by omega) (by omega) (fun w1 hw => (hl.below hw.below).isSome (by omega)) ?_
        refine W_load TOk (by rfl) (by rfl) (by rfl) (fun w1 hw => cells_elem1 hvs hw.below) ?_
        repeat first | refine W_seq ?_ | refine W_region (by rfl) ?_ | refine W_opsnil ?_ | refine W_pure TOk (by rfl) (by first | trivial | (simp only [okI, and_true, true_and, and_self] <;> omega) | omega) ?_
        simp only [show Try.t21.size = 1 from rfl, show Try.t48.size = 1 from rfl, Int.toNat_natCast, Int.toNat_zero, Nat.sub_zero]
        have e0 : ((x.drop 0).take (col - 0)).length = col := by rw [List.drop_zero, Nat.sub_zero, List.length_take]; omega
        refine W_call (vs := [.slice (cutA B 0 cB 1) ((x.drop 0).take (col - 0)).length cB]) _ (by rfl) Try.call115 ?_ (fun w1 hw => Clone_c w1 (cutA B 0 cB 1) cB ((x.drop 0).take (col - 0)) ((hB_.below hw.below).cut32 0 col cB (by omega)) (by omega)) ?_
        · rw [e0]; rfl
        rw [show (x.drop 0).take (col - 0) = x.take col by rw [List.drop_zero, Nat.sub_zero]]
        rintro _ _ ⟨A1, c1, rfl, rfl⟩
        dsimp only [List.cons_append, List.nil_append]
        refine W_lit TOk (cs := [_]) (by rfl) (by first | exact sl48 | exact sl22 | exact sl136 | exact sl150 | exact sl223 | exact sl29 | exact sl132 | exact sl207) (by rfl) (by rfl) (by rfl) (by rfl) (fun g1 => ?_)
        repeat first | refine W_seq ?_ | refine W_block ?_ | refine W_region (by rfl) ?_ | refine W_opsnil ?_ | refine W_pure TOk (by rfl) (by first | trivial | (simp only [okI, and_true, true_and, and_self] <;> omega) | omega) ?_
        have hkb : ∀ j, j ≤ n → j * (G.length - 1) ≤ 65536 ∧ j * ((rowN G 0).length + tot (G.drop 1)) ≤ 65536 := fun j hj => by
          have h1 : j * (G.length - 1) ≤ n * runes G := Nat.mul_le_mul hj (by omega)
          have h2 : j * ((rowN G 0).length + tot (G.drop 1)) ≤ n * runes G := Nat.mul_le_mul hj (by omega)
          omega
        have hpiece : ∀ j, j ≤ n → (stepsP (rowN G 0) (G.drop 1) (x.take col) j).length = 1 + j * (G.length - 1) ∧ tot (stepsP (rowN G 0) (G.drop 1) (x.take col) j) ≤ x.length + 65536 := fun j hj => by
          have h1 := stepsP_len (rowN G 0) (G.drop 1) (x.take col) j
          have h2 := stepsP_tot (rowN G 0) (G.drop 1) (x.take col) j
          have h3 := (hkb j hj).2
          rw [hgl] at h1
          have h4 : (x.take col).length ≤ x.length := by rw [List.length_take]; omega
          exact ⟨h1, by omega⟩
        have hstep : ∀ j, stepsP (rowN G 0) (G.drop 1) (x.take col) (j + 1) = stepP (rowN G 0) (G.drop 1) (stepsP (rowN G 0) (G.drop 1) (x.take col) j) := fun j => rfl
        have hst0 : stepsP (rowN G 0) (G.drop 1) (x.take col) 0 = [x.take col] := rfl
        generalize stepsP (rowN G 0) (G.drop 1) (x.take col) = nw at *
        refine W_loop (ι := Nat × Option Addr × Nat × List Value) (fun q => [(0, .slice A L.length c0), (6, .pointer (some ⟨b6, 0, none⟩)), (7, .pointer (some ⟨b7, 0, none⟩)), (11, .pointer (some ⟨b11, 0, none⟩)), (18, .int .i64 (col : Nat)), (23, .slice B x.length cB), (24, .slice q.2.1 (nw q.1).length q.2.2.1), (171, .int .i64 (n : Nat)), (172, .int .i64 (q.1 : Nat))])
          (fun q => [box b11 43 [.int .i64 0, .int .i64 0], box b7 54 [.int .i64 0, .slice AG G.length cG], box b6 43 [.int .i64 (p.1 : Nat), .int .i64 (p.2 : Nat)], own 48 1 q.2.1 (nw q.1).length q.2.2.1 q.2.2.2, rowsA q.2.2.2 (nw q.1)])
          (fun q => q.1 ≤ n ∧ q.2.2.2.length = (nw q.1).length) (fun q => n - q.1) (0, some ⟨g1, 0, none⟩, 1, [.slice A1 (x.take col).length c1]) ⟨by dsimp only; omega, by dsimp only; rw [hst0]; rfl⟩ ⟨rfl, rfl, rfl, rfl, rfl, rfl, by dsimp only; rw [hst0]; rfl, rfl, rfl, trivial⟩ ?_ ?_
        · dsimp only
          rw [hst0]
          refine ((Ent.sel [2, 2, 2, 0, 0] _ (by rfl))).trans (Ent.cons _ (Ent.cons _ (Ent.cons _ (Ent.cons _ ?_))))
          exact (Ent.rowA_in A1 c1 (x.take col) []).trans (Ent.one_seps _ _)
        rintro ⟨j, A2, c2, vs⟩ ⟨hj, hvl⟩
        dsimp only at hj hvl ⊢
        obtain ⟨hnl, hnt⟩ := hpiece j hj
        have hk1 := (hkb j hj).1
        repeat first | refine W_seq ?_ | refine W_region (by rfl) ?_ | refine W_opsnil ?_ | refine W_pure TOk (by rfl) (by first | trivial | (simp only [okI, and_true, true_and, and_self] <;> omega) | omega) ?_
        refine W_cond_d (by rfl) (fun hlt => ?_) (fun hge => ?_)
        · have hsj := hstep j
          obtain ⟨hnl1, hnt1⟩ := hpiece (j + 1) (by omega)
          have hk2 := (hkb (j + 1) (by omega)).1
          have hsl : (nw (j + 1)).length = (nw j).length + (G.length - 1) := by rw [hsj]; unfold stepP; rw [List.length_append, List.length_set, hgl]
          generalize hN : nw j = N at *
          have hN1 : 0 < N.length := by omega
          have hcst : ((N.length : Nat) : Int) - 1 = ((N.length - 1 : Nat) : Int) := by omega
          have hlastg := rowN_get (xss := N) (i := N.length - 1) (by omega)
          have hlastl := rowN_len (xss := N) (i := N.length - 1) (by omega)
          obtain ⟨v, hv⟩ : ∃ v, vs[N.length - 1]? = some v := ⟨_, List.getElem?_eq_getElem (by omega)⟩
          repeat first | refine W_seq ?_ | refine W_skip ?_ | refine W_block ?_ | refine W_region (by rfl) ?_ | refine W_opsnil ?_ | refine W_pure TOk (by rfl) (by first | trivial | (simp only [okI, and_true, true_and, and_self] <;> omega) | omega) ?_
          rw [hcst]
          refine W_pick 4 (by rfl) ?_
          refine W_ent (rowsA_split vs N hvl hv hlastg _) ?_
          refine W_rowA (fun A9 c9 hvA => ?_)
          subst hvA
          refine W_draw (fun w1 => St _ _ w1 [own 48 1 A2 N.length c2 vs, box b7 54 [.int .i64 0, .slice AG G.length cG]]) [12] [(0, 0), (1, 0), (2, 0), (3, 0), (4, 0), (5, 0), (6, 0), (7, 0), (8, 0), (9, 0), (10, 1), (11, 0), (12, 2)] (by kernel_rfl) (fun _ h => h.ent (Ent.sel [6, 4] _ (by rfl))) (by rfl) (by kernel_rfl) (fun hB => ?_)
          repeat first | refine D_pure TOk (by kernel_rfl) hB (by rfl) (by rfl) (by first | trivial | (simp only [okI, and_true, true_and, and_self] <;> omega) | omega) (fun hB => ?_)
          refine D_index TOk (by kernel_rfl) hB (by rfl) (by rfl) (fun _ h => h.ent (Ent.sel [6, 4] _ (by rfl))) (fun _ h => h) (by rfl) (by rfl) (by rfl) (by first | exact es48 | exact es22 | exact es136 | exact es150 | exact es223 | exact es29 | exact es132 | exact es207) (by omega) (by omega) (fun w1 hw => (hw.hp.cells 0 rfl).isSome (by omega)) (fun hB => ?_)
          refine D_load TOk (by kernel_rfl) hB (by rfl) (by rfl) (fun _ h => h.ent (Ent.sel [6, 4] _ (by rfl))) (fun _ h => h) (by rfl) (by rfl) (by rfl) (fun w1 hw => (hw.hp.cells 0 rfl).elem1 (by rw [Int.toNat_natCast]; exact hv)) (fun hB => ?_)
          repeat first | refine D_pure TOk (by kernel_rfl) hB (by rfl) (by rfl) (by first | trivial | (simp only [okI, and_true, true_and, and_self] <;> omega) | omega) (fun hB => ?_)
          refine D_load_box 1 TOk (by kernel_rfl) hB (by rfl) (by rfl) (by rfl) (by rfl) (by rfl) (fun _ h => h.ent (Ent.sel [6, 4] _ (by rfl))) (by rfl) (by rfl) (fun hB => ?_)
          refine D_index TOk (by kernel_rfl) hB (by rfl) (by rfl) (fun _ h => h.ent (Ent.sel [6, 4] _ (by rfl))) (fun _ h => h) (by rfl) (by rfl) (by rfl) (by first | exact es48 | exact es22 | exact es136 | exact es150 | exact es223 | exact es29 | exact es132 | exact es207) (by omega) (by omega) (fun w1 hw => (hG.below hw.below).isSome (by omega)) (fun hB => ?_)
          refine D_load TOk (by kernel_rfl) hB (by rfl) (by rfl) (fun _ h => h.ent (Ent.sel [6, 4] _ (by rfl))) (fun _ h => h) (by rfl) (by rfl) (by rfl) (fun w1 hw => cells_elem1 hvs0 hw.below) (fun hB => ?_)
          refine D_one hB (by rfl) (fun hB => ?_)
          refine W_append_own 0 TOk (by rfl) (by rfl) (by rfl) (by first | exact sl48 | exact sl22 | exact sl136 | exact sl150 | exact sl223 | exact sl29 | exact sl132 | exact sl207) (by rfl) (fun w1 hw => hB0.below hw.below) (by simp [i32s_length, i64s_length]) (by first | exact i32s_one _ | exact i64s_one _ | exact one_of _ rfl) (by unfold maxLen; omega) (by omega) (fun A10 c10 => ?_); dsimp only [setL]
          repeat first | refine W_opsnil ?_
          refine D_shown (fun _ h => h.ent (Ent.sel [6, 4] _ (by rfl))) ?_
          refine D_index TOk (by kernel_rfl) hB (by rfl) (by rfl) (fun _ h => h.ent (Ent.sel [6, 4] _ (by rfl))) (fun _ h => h) (by rfl) (by rfl) (by rfl) (by first | exact es48 | exact es22 | exact es136 | exact es150 | exact es223 | exact es29 | exact es132 | exact es207) (by omega) (by omega) (fun w1 hw => (hw.hp.cells 0 rfl).isSome (by omega)) (fun hB => ?_)
          refine D_last hB (by rfl) (fun hB => ?_)
          refine W_store_own 6 TOk (by rfl) ptr_at (by rfl) (by rfl) (by rfl) (by simp only [vcells, List.length_cons, List.length_nil]; omega) (by omega) (by rfl) ?_
          simp only [Int.toNat_natCast, Nat.mul_one, vcells, setL, putL_set]
          repeat first | refine W_opsnil ?_
          repeat first | refine D_done hB ?_
          refine W_ent ((Ent.own_cast (by rw [← List.length_append]) (show i32s (rowN N (N.length - 1)) ++ i32s (rowN G 0) = i32s (rowN N (N.length - 1) ++ rowN G 0) by simp [i32s]) _).trans (Ent.rowA_in A10 c10 (rowN N (N.length - 1) ++ rowN G 0) _)) ?_
          refine W_ent (rowsA_join vs N hvl (by omega) _) ?_
          repeat first | refine W_region (by rfl) ?_ | refine W_pure TOk (by rfl) (by first | trivial | (simp only [okI, and_true, true_and, and_self] <;> omega) | omega) ?_ | refine W_load_box 2 TOk (by rfl) (by rfl) (by rfl) (by rfl) (by rfl) ?_
          simp only [show Try.t48.size = 1 from rfl, Int.toNat_natCast, Int.toNat_one]
          refine W_call (vs := [.slice (cutA AG 1 cG 1) ((G.drop 1).take (G.length - 1)).length (cG - 1)]) _ (by rfl) Try.call127 ?_ (fun w1 hw => Lines_c w1 (cutA AG 1 cG 1) (cG - 1) ((G.drop 1).take (G.length - 1)) ((hG.below hw.below).cut 1 G.length cG (by omega)) (by rw [dropr]; omega)) ?_
          · rw [dropr, hgl]; rfl
          rw [dropr]
          rintro _ _ ⟨A11, c11, vs3, rfl, hv3, rfl⟩
          rw [hgl] at hv3 ⊢
          dsimp only [List.cons_append, List.nil_append]
          refine W_rowsOne 1 (by rfl) (by rw [hv3, hgl]) (fun h1c => ?_)
          refine W_append_own 6 TOk (by rfl) (by rfl) (by rfl) sl22 (by rfl) (fun w1 hw => hw.hp.cells 0 rfl) (by rw [hv3, Nat.mul_one]) h1c (by unfold maxLen; omega) (by omega) (fun A12 c12 => ?_); dsimp only [setL]
          repeat first | refine W_blk ?_ | refine W_region (by rfl) ?_ | refine W_opsnil ?_ | refine W_pure TOk (by rfl) (by first | trivial | (simp only [okI, and_true, true_and, and_self] <;> omega) | omega) ?_
          refine W_inv (j + 1, A12, c12, vs.set (N.length - 1) (.slice A10 (rowN N (N.length - 1) ++ rowN G 0).length c10) ++ vs3) ⟨by dsimp only; omega, by dsimp only; rw [hsl, List.length_append, List.length_set, hvl, hv3]⟩ (by dsimp only; omega) ⟨rfl, rfl, rfl, rfl, rfl, rfl, ?_, rfl, rfl, trivial⟩ ?_
          · dsimp only; rw [hsl]; rfl
          · dsimp only
            rw [hsl, hsj]
            refine ((Ent.sel [3, 3, 3, 3, 2, 1] _ (by rfl))).trans (Ent.cons _ (Ent.cons _ (Ent.cons _ ?_)))
            rw [List.length_append]
            exact Ent.cons _ (Ent.rowsA_app (by rw [List.length_set, List.length_set, hvl]) _)
        · have hje : j = n := by omega
          subst hje
          generalize hN : nw j = N at *
          have hN1 : 0 < N.length := by omega
          have hcst : ((N.length : Nat) : Int) - 1 = ((N.length - 1 : Nat) : Int) := by omega
          have hlastg := rowN_get (xss := N) (i := N.length - 1) (by omega)
          have hlastl := rowN_len (xss := N) (i := N.length - 1) (by omega)
          have hlastd : lastN N = rowN N (N.length - 1) := rfl
          rw [hlastd]
          obtain ⟨v, hv⟩ : ∃ v, vs[N.length - 1]? = some v := ⟨_, List.getElem?_eq_getElem (by omega)⟩
          repeat first | refine W_seq ?_ | refine W_exit (by rfl) ?_ | refine W_region (by rfl) ?_ | refine W_opsnil ?_ | refine W_pure TOk (by rfl) (by first | trivial | (simp only [okI, and_true, true_and, and_self] <;> omega) | omega) ?_
          rw [hcst]
          refine W_pick 4 (by rfl) ?_
          refine W_ent (rowsA_split vs N hvl hv hlastg _) ?_
          refine W_rowA (fun A9 c9 hvA => ?_)
          subst hvA
          refine W_index TOk (by rfl) (by rfl) (by rfl) (by first | exact es48 | exact es22 | exact es136 | exact es150 | exact es223 | exact es29 | exact es132 | exact es207) (by omega) (by omega) (fun w1 hw => (hw.hp.cells 6 rfl).isSome (by omega)) ?_
          refine W_load TOk (by rfl) (by rfl) (by rfl) (fun w1 hw => (hw.hp.cells 6 rfl).elem1 (by rw [Int.toNat_natCast]; exact hv)) ?_
          repeat first | refine W_seq ?_ | refine W_opsnil ?_ | refine W_pure TOk (by rfl) (by first | trivial | (simp only [okI, and_true, true_and, and_self] <;> omega) | omega) ?_
          have hcut := hB_.cut32 col x.length cB (by omega)
          rw [dropc] at hcut
          have hxd : (x.drop col).length = x.length - col := List.length_drop ..
          have hNt := hnt
          refine W_draw (fun w1 => St _ _ w1 [own 48 1 A2 N.length c2 vs]) [11] [(0, 0), (1, 0), (2, 0), (3, 0), (4, 0), (5, 0), (6, 0), (7, 0), (8, 0), (9, 1), (10, 0), (11, 2)] (by kernel_rfl) (fun _ h => h.ent (Ent.sel [6] _ (by rfl))) (by rfl) (by kernel_rfl) (fun hB => ?_)
          repeat first | refine D_pure TOk (by kernel_rfl) hB (by rfl) (by rfl) (by first | trivial | (simp only [okI, and_true, true_and, and_self] <;> omega) | omega) (fun hB => ?_)
          refine D_index TOk (by kernel_rfl) hB (by rfl) (by rfl) (fun _ h => h.ent (Ent.sel [6] _ (by rfl))) (fun _ h => h) (by rfl) (by rfl) (by rfl) (by first | exact es48 | exact es22 | exact es136 | exact es150 | exact es223 | exact es29 | exact es132 | exact es207) (by omega) (by omega) (fun w1 hw => (hw.hp.cells 0 rfl).isSome (by omega)) (fun hB => ?_)
          refine D_load TOk (by kernel_rfl) hB (by rfl) (by rfl) (fun _ h => h.ent (Ent.sel [6] _ (by rfl))) (fun _ h => h) (by rfl) (by rfl) (by rfl) (fun w1 hw => (hw.hp.cells 0 rfl).elem1 (by rw [Int.toNat_natCast]; exact hv)) (fun hB => ?_)
          repeat first | refine D_pure TOk (by kernel_rfl) hB (by rfl) (by rfl) (by first | trivial | (simp only [okI, and_true, true_and, and_self] <;> omega) | omega) (fun hB => ?_)
          refine D_one hB (by rfl) (fun hB => ?_)
          simp only [Int.toNat_natCast]
          refine W_append_own 0 TOk (by rfl) (by rfl) (by rfl) (by first | exact sl48 | exact sl22 | exact sl136 | exact sl150 | exact sl223 | exact sl29 | exact sl132 | exact sl207) (by rfl) (fun w1 hw => (hcut.below hw.below)) (by simp [i32s_length, i64s_length]) (by first | exact i32s_one _ | exact i64s_one _ | exact one_of _ rfl) (by unfold maxLen; omega) (by omega) (fun A10 c10 => ?_); dsimp only [setL]
          repeat first | refine W_opsnil ?_
          refine D_shown (fun _ h => h.ent (Ent.sel [6] _ (by rfl))) ?_
          refine D_index TOk (by kernel_rfl) hB (by rfl) (by rfl) (fun _ h => h.ent (Ent.sel [6] _ (by rfl))) (fun _ h => h) (by rfl) (by rfl) (by rfl) (by first | exact es48 | exact es22 | exact es136 | exact es150 | exact es223 | exact es29 | exact es132 | exact es207) (by omega) (by omega) (fun w1 hw => (hw.hp.cells 0 rfl).isSome (by omega)) (fun hB => ?_)
          refine D_last hB (by rfl) (fun hB => ?_)
          refine W_store_own 6 TOk (by rfl) ptr_at (by rfl) (by rfl) (by rfl) (by simp only [vcells, List.length_cons, List.length_nil]; omega) (by omega) (by rfl) ?_
          simp only [Int.toNat_natCast, Nat.mul_one, vcells, setL, putL_set]
          repeat first | refine W_opsnil ?_
          repeat first | refine D_done hB ?_
          rw [show x.length - col = (x.drop col).length from hxd.symm]
          refine W_ent ((Ent.own_cast (by rw [← List.length_append]) (show i32s (rowN N (N.length - 1)) ++ i32s (x.drop col) = i32s (rowN N (N.length - 1) ++ x.drop col) by simp [i32s]) _).trans (Ent.rowA_in A10 c10 (rowN N (N.length - 1) ++ x.drop col) _)) ?_
          refine W_ent (rowsA_join vs N hvl (by omega) _) ?_
          repeat first | refine W_seq ?_ | refine W_region (by rfl) ?_ | refine W_pure TOk (by rfl) (by first | trivial | (simp only [okI, and_true, true_and, and_self] <;> omega) | omega) ?_ | refine W_load_box 3 TOk (by rfl) (by rfl) (by rfl) (by rfl) (by rfl) ?_
          have hNS : tot (N.set (N.length - 1) (rowN N (N.length - 1) ++ x.drop col)) = tot N + (x.drop col).length := tot_set (by omega) _
          have hNl : (N.set (N.length - 1) (rowN N (N.length - 1) ++ x.drop col)).length = N.length := List.length_set ..
          have hvl2 : (vs.set (N.length - 1) (.slice A10 (rowN N (N.length - 1) ++ x.drop col).length c10)).length = N.length := by rw [List.length_set, hvl]
          rw [show (rowN N (N.length - 1)).length + (x.drop col).length = (rowN N (N.length - 1) ++ x.drop col).length from List.length_append.symm]
          generalize N.set (N.length - 1) (rowN N (N.length - 1) ++ x.drop col) = D at *
          generalize vs.set (N.length - 1) (.slice A10 (rowN N (N.length - 1) ++ x.drop col).length c10) = vs' at *
          refine W_rowsOne 0 (by rfl) (hvl2.trans hNl.symm) (fun h1r => ?_)
          have htl : (L.take p.1).length = p.1 := by rw [List.length_take]; omega
          have hdl : (L.drop (p.1 + 1)).length = L.length - (p.1 + 1) := List.length_drop ..
          have htt := tot_take L p.1
          have htd := tot_drop L (p.1 + 1)
          refine W_call _ (by rfl) Try.call121 (by rfl) (fun w1 hw => put_c w1 A c0 L (hl.below hw.below) hc (by omega) p.1 (p.1 + 1) (by omega) (by omega) A2 N.length c2 vs' (hw.hp.cells 4 rfl) hvl2 h1r (by omega)) ?_
          rintro _ _ ⟨A5, c5, vs1, vs2, rfl, hv1, hv2, rfl⟩
          dsimp only [List.cons_append, List.nil_append]
          refine W_ent ((Ent.sel [0, 0, 1, 0, 0, 0, 0] _ (by rfl))) ?_
          refine W_ent (Ent.cons _ (Ent.rowsA_app (by rw [hv1, htl]) _)) ?_
          refine W_ent (Ent.cons _ (Ent.rowsA_app (by rw [List.length_append, List.length_append, hv1, htl, hvl2, hNl]) _)) ?_
          have hout : (L.take p.1 ++ D ++ L.drop (p.1 + 1)).length = p.1 + N.length + (L.length - (p.1 + 1)) := by rw [List.length_append, List.length_append, htl, hdl, hNl]
          have htot : tot (L.take p.1 ++ D ++ L.drop (p.1 + 1)) ≤ 4 * tot L + 131072 := by rw [tot_append, tot_append]; omega
          generalize L.take p.1 ++ D ++ L.drop (p.1 + 1) = O at *
          have hvo : (vs1 ++ vs' ++ vs2).length = O.length := by rw [hout, List.length_append, List.length_append, hv1, hv2, hvl2]
          rw [← hout]
          generalize vs1 ++ vs' ++ vs2 = vo at *
          repeat first | refine W_seq ?_ | refine W_region (by rfl) ?_ | refine W_opsnil ?_ | refine W_pure TOk (by rfl) (by first | trivial | (simp only [okI, and_true, true_and, and_self] <;> omega) | omega) ?_
          refine W_cond_d (by rfl) (fun hgt => ?_) (fun hgt => ?_)
          · rw [if_pos (show 1 < N.length by omega)]
            repeat first | refine W_seq ?_ | refine W_region (by rfl) ?_ | refine W_opsnil ?_ | refine W_pure TOk (by rfl) (by first | trivial | (simp only [okI, and_true, true_and, and_self] <;> omega) | omega) ?_ | refine W_load_boxN 4 TOk (by rfl) (by rfl) (by rfl) (by rfl) (by rfl) ?_ | (refine W_store_box 4 TOk (by rfl) (by rfl) (by rfl) (by rfl) (by rfl) (by rfl) ?_; dsimp only [setL, putL, vcells])
            refine W_callV (by rfl) Try.call123 (by rfl) (fun w1 hw => Clip_c w1 A5 c5 O (rows_of hw.hp 0 1 rfl rfl hvo) (by omega) ((p.1 : Nat) : Int) ((col : Nat) : Int)) ?_
            refine W_callV (by rfl) Try.call128 (by rfl) (fun w1 hw => ofits_c w1 A5 c5 O (rows_of hw.hp 0 1 rfl rfl hvo) (by omega) (((clipS O ((p.1 : Nat) : Int) ((col : Nat) : Int)).1 : Nat) : Int) (((clipS O ((p.1 : Nat) : Int) ((col : Nat) : Int)).2 : Nat) : Int)) ?_
            obtain ⟨MM, hent, hlinr⟩ := fit_lin (A := A5) (c := c5) (q := clipS O ((p.1 : Nat) : Int) ((col : Nat) : Int)) hvo
            unfold posN at hlinr
            unfold fitV at hlinr ⊢
            by_cases hfit : 65536 < runes O
            · rw [if_pos hfit] at hlinr ⊢
              repeat first | refine W_opsnil ?_ | refine W_pure TOk (by rfl) (by first | trivial | (simp only [okI, and_true, true_and, and_self] <;> omega) | omega) ?_ | (refine W_store_box 2 TOk (by rfl) (by rfl) (by rfl) (by rfl) (by rfl) (by rfl) ?_; dsimp only [setL, putL, vcells])
              exact W_retF (vs := [_, _, _]) ⟨rfl, rv_box 2 TOk rfl rfl rfl, rfl, trivial⟩ (M := MM) (((Ent.sel [0, 0] _ (by rfl))).trans hent) hlinr
            · rw [if_neg hfit] at hlinr ⊢
              repeat first | refine W_opsnil ?_ | refine W_pure TOk (by rfl) (by first | trivial | (simp only [okI, and_true, true_and, and_self] <;> omega) | omega) ?_ | (refine W_store_box 2 TOk (by rfl) (by rfl) (by rfl) (by rfl) (by rfl) (by rfl) ?_; dsimp only [setL, putL, vcells])
              exact W_retF (vs := [_, _, _]) ⟨rfl, rv_box 2 TOk rfl rfl rfl, rfl, trivial⟩ (M := MM) (((Ent.sel [0, 0] _ (by rfl))).trans hent) hlinr
          · rw [if_neg (show ¬ 1 < N.length by omega)]
            repeat first | refine W_seq ?_ | refine W_region (by rfl) ?_ | refine W_pure TOk (by rfl) (by first | trivial | (simp only [okI, and_true, true_and, and_self] <;> omega) | omega) ?_ | refine W_load_box 3 TOk (by rfl) (by rfl) (by rfl) (by rfl) (by rfl) ?_
            refine W_index TOk (by rfl) (by rfl) (by rfl) (by first | exact es48 | exact es22 | exact es136 | exact es150 | exact es223 | exact es29 | exact es132 | exact es207) (by omega) (by omega) (fun w1 hw => (hG.below hw.below).isSome (by omega)) ?_
            refine W_load TOk (by rfl) (by rfl) (by rfl) (fun w1 hw => cells_elem1 hvs0 hw.below) ?_
            repeat first | refine W_opsnil ?_ | refine W_pure TOk (by rfl) (by first | trivial | (simp only [okI, and_true, true_and, and_self] <;> omega) | omega) ?_
            refine W_cond_d (by rfl) (fun hgp => ?_) (fun hgp => ?_)
            · rw [if_pos (show 0 < (rowN G 0).length by omega)]
              repeat first | refine W_seq ?_ | refine W_region (by rfl) ?_ | refine W_opsnil ?_ | refine W_pure TOk (by rfl) (by first | trivial | (simp only [okI, and_true, true_and, and_self] <;> omega) | omega) ?_ | refine W_load_boxN 4 TOk (by rfl) (by rfl) (by rfl) (by rfl) (by rfl) ?_ | (refine W_store_box 4 TOk (by rfl) (by rfl) (by rfl) (by rfl) (by rfl) (by rfl) ?_; dsimp only [setL, putL, vcells])
              refine W_callV (by rfl) Try.call123 (by rfl) (fun w1 hw => Clip_c w1 A5 c5 O (rows_of hw.hp 0 1 rfl rfl hvo) (by omega) ((p.1 : Nat) : Int) (((rowN N (N.length - 1)).length : Nat) - 1)) ?_
              refine W_callV (by rfl) Try.call128 (by rfl) (fun w1 hw => ofits_c w1 A5 c5 O (rows_of hw.hp 0 1 rfl rfl hvo) (by omega) (((clipS O ((p.1 : Nat) : Int) (((rowN N (N.length - 1)).length : Nat) - 1)).1 : Nat) : Int) (((clipS O ((p.1 : Nat) : Int) (((rowN N (N.length - 1)).length : Nat) - 1)).2 : Nat) : Int)) ?_
              obtain ⟨MM, hent, hlinr⟩ := fit_lin (A := A5) (c := c5) (q := clipS O ((p.1 : Nat) : Int) (((rowN N (N.length - 1)).length : Nat) - 1)) hvo
              unfold posN at hlinr
              unfold fitV at hlinr ⊢
              by_cases hfit : 65536 < runes O
              · rw [if_pos hfit] at hlinr ⊢
                repeat first | refine W_opsnil ?_ | refine W_pure TOk (by rfl) (by first | trivial | (simp only [okI, and_true, true_and, and_self] <;> omega) | omega) ?_ | (refine W_store_box 2 TOk (by rfl) (by rfl) (by rfl) (by rfl) (by rfl) (by rfl) ?_; dsimp only [setL, putL, vcells])
                exact W_retF (vs := [_, _, _]) ⟨rfl, rv_box 2 TOk rfl rfl rfl, rfl, trivial⟩ (M := MM) (((Ent.sel [0, 0] _ (by rfl))).trans hent) hlinr
              · rw [if_neg hfit] at hlinr ⊢
                repeat first | refine W_opsnil ?_ | refine W_pure TOk (by rfl) (by first | trivial | (simp only [okI, and_true, true_and, and_self] <;> omega) | omega) ?_ | (refine W_store_box 2 TOk (by rfl) (by rfl) (by rfl) (by rfl) (by rfl) (by rfl) ?_; dsimp only [setL, putL, vcells])
                exact W_retF (vs := [_, _, _]) ⟨rfl, rv_box 2 TOk rfl rfl rfl, rfl, trivial⟩ (M := MM) (((Ent.sel [0, 0] _ (by rfl))).trans hent) hlinr
            · rw [if_neg (show ¬ 0 < (rowN G 0).length by omega)]
              repeat first | refine W_seq ?_ | refine W_skip ?_ | refine W_region (by rfl) ?_ | refine W_pure TOk (by rfl) (by first | trivial | (simp only [okI, and_true, true_and, and_self] <;> omega) | omega) ?_ | refine W_load_boxN 4 TOk (by rfl) (by rfl) (by rfl) (by rfl) (by rfl) ?_
              refine W_callV (by rfl) Try.call123 (by rfl) (fun w1 hw => Clip_c w1 A5 c5 O (rows_of hw.hp 0 1 rfl rfl hvo) (by omega) ((p.1 : Nat) : Int) ((p.2 : Nat) : Int)) ?_
              refine W_callV (by rfl) Try.call128 (by rfl) (fun w1 hw => ofits_c w1 A5 c5 O (rows_of hw.hp 0 1 rfl rfl hvo) (by omega) (((clipS O ((p.1 : Nat) : Int) ((p.2 : Nat) : Int)).1 : Nat) : Int) (((clipS O ((p.1 : Nat) : Int) ((p.2 : Nat) : Int)).2 : Nat) : Int)) ?_
              obtain ⟨MM, hent, hlinr⟩ := fit_lin (A := A5) (c := c5) (q := clipS O ((p.1 : Nat) : Int) ((p.2 : Nat) : Int)) hvo
              unfold posN at hlinr
              unfold fitV at hlinr ⊢
              by_cases hfit : 65536 < runes O
              · rw [if_pos hfit] at hlinr ⊢
                repeat first | refine W_opsnil ?_ | refine W_pure TOk (by rfl) (by first | trivial | (simp only [okI, and_true, true_and, and_self] <;> omega) | omega) ?_ | (refine W_store_box 2 TOk (by rfl) (by rfl) (by rfl) (by rfl) (by rfl) (by rfl) ?_; dsimp only [setL, putL, vcells])
                exact W_retF (vs := [_, _, _]) ⟨rfl, rv_box 2 TOk rfl rfl rfl, rfl, trivial⟩ (M := MM) (((Ent.sel [0, 0] _ (by rfl))).trans hent) hlinr
              · rw [if_neg hfit] at hlinr ⊢
                repeat first | refine W_opsnil ?_ | refine W_pure TOk (by rfl) (by first | trivial | (simp only [okI, and_true, true_and, and_self] <;> omega) | omega) ?_ | (refine W_store_box 2 TOk (by rfl) (by rfl) (by rfl) (by rfl) (by rfl) (by rfl) ?_; dsimp only [setL, putL, vcells])
                exact W_retF (vs := [_, _, _]) ⟨rfl, rv_box 2 TOk rfl rfl rfl, rfl, trivial⟩ (M := MM) (((Ent.sel [0, 0] _ (by rfl))).trans hent) hlinr
      · have hc1 : ((p.2 : Nat) : Int) = ((col : Nat) : Int) := by rw [hcol, if_neg (fun h => hpos (by omega))]
        repeat first | refine W_seq ?_ | refine W_skip ?_ | refine W_block ?_ | refine W_blk ?_ | refine W_region (by rfl) ?_ | refine W_opsnil ?_ | refine W_pure TOk (by rfl) (by first | trivial | (simp only [okI, and_true, true_and, and_self] <;> omega) | omega) ?_ | refine W_cond_f (by rfl) ?_ | refine W_load_box 1 TOk (by rfl) (by rfl) (by rfl) (by rfl) (by rfl) ?_ | refine W_load_box 2 TOk (by rfl) (by rfl) (by rfl) (by rfl) (by rfl) ?_
        rw [hc1]
        refine W_index TOk (by rfl) (by rfl) (by rfl) (by first | exact es48 | exact es22 | exact es136 | exact es150 | exact es223 | exact es29 | exact es132 | exact es207) (by omega) (by omega) (fun w1 hw => (hl.below hw.below).isSome (by omega)) ?_
        refine W_load TOk (by rfl) (by rfl) (by rfl) (fun w1 hw => cells_elem1 hvs hw.below) ?_
        repeat first | refine W_seq ?_ | refine W_region (by rfl) ?_ | refine W_opsnil ?_ | refine W_pure TOk (by rfl) (by first | trivial | (simp only [okI, and_true, true_and, and_self] <;> omega) | omega) ?_
        simp only [show Try.t21.size = 1 from rfl, show Try.t48.size = 1 from rfl, Int.toNat_natCast, Int.toNat_zero, Nat.sub_zero]
        have e0 : ((x.drop 0).take (col - 0)).length = col := by rw [List.drop_zero, Nat.sub_zero, List.length_take]; omega
        refine W_call (vs := [.slice (cutA B 0 cB 1) ((x.drop 0).take (col - 0)).length cB]) _ (by rfl) Try.call115 ?_ (fun w1 hw => Clone_c w1 (cutA B 0 cB 1) cB ((x.drop 0).take (col - 0)) ((hB_.below hw.below).cut32 0 col cB (by omega)) (by omega)) ?_
        · rw [e0]; rfl
        rw [show (x.drop 0).take (col - 0) = x.take col by rw [List.drop_zero, Nat.sub_zero]]
        rintro _ _ ⟨A1, c1, rfl, rfl⟩
        dsimp only [List.cons_append, List.nil_append]
        refine W_lit TOk (cs := [_]) (by rfl) (by first | exact sl48 | exact sl22 | exact sl136 | exact sl150 | exact sl223 | exact sl29 | exact sl132 | exact sl207) (by rfl) (by rfl) (by rfl) (by rfl) (fun g1 => ?_)
        repeat first | refine W_seq ?_ | refine W_block ?_ | refine W_region (by rfl) ?_ | refine W_opsnil ?_ | refine W_pure TOk (by rfl) (by first | trivial | (simp only [okI, and_true, true_and, and_self] <;> omega) | omega) ?_
        have hkb : ∀ j, j ≤ n → j * (G.length - 1) ≤ 65536 ∧ j * ((rowN G 0).length + tot (G.drop 1)) ≤ 65536 := fun j hj => by
          have h1 : j * (G.length - 1) ≤ n * runes G := Nat.mul_le_mul hj (by omega)
          have h2 : j * ((rowN G 0).length + tot (G.drop 1)) ≤ n * runes G := Nat.mul_le_mul hj (by omega)
          omega
        have hpiece : ∀ j, j ≤ n → (stepsP (rowN G 0) (G.drop 1) (x.take col) j).length = 1 + j * (G.length - 1) ∧ tot (stepsP (rowN G 0) (G.drop 1) (x.take col) j) ≤ x.length + 65536 := fun j hj => by
          have h1 := stepsP_len (rowN G 0) (G.drop 1) (x.take col) j
          have h2 := stepsP_tot (rowN G 0) (G.drop 1) (x.take col) j
          have h3 := (hkb j hj).2
          rw [hgl] at h1
          have h4 : (x.take col).length ≤ x.length := by rw [List.length_take]; omega
          exact ⟨h1, by omega⟩
        have hstep : ∀ j, stepsP (rowN G 0) (G.drop 1) (x.take col) (j + 1) = stepP (rowN G 0) (G.drop 1) (stepsP (rowN G 0) (G.drop 1) (x.take col) j) := fun j => rfl
        have hst0 : stepsP (rowN G 0) (G.drop 1) (x.take col) 0 = [x.take col] := rfl
        generalize stepsP (rowN G 0) (G.drop 1) (x.take col) = nw at *
        refine W_loop (ι := Nat × Option Addr × Nat × List Value) (fun q => [(0, .slice A L.length c0), (6, .pointer (some ⟨b6, 0, none⟩)), (7, .pointer (some ⟨b7, 0, none⟩)), (11, .pointer (some ⟨b11, 0, none⟩)), (18, .int .i64 (col : Nat)), (23, .slice B x.length cB), (24, .slice q.2.1 (nw q.1).length q.2.2.1), (171, .int .i64 (n : Nat)), (172, .int .i64 (q.1 : Nat))])
          (fun q => [box b11 43 [.int .i64 0, .int .i64 0], box b7 54 [.int .i64 0, .slice AG G.length cG], box b6 43 [.int .i64 (p.1 : Nat), .int .i64 (col : Nat)], own 48 1 q.2.1 (nw q.1).length q.2.2.1 q.2.2.2, rowsA q.2.2.2 (nw q.1)])
          (fun q => q.1 ≤ n ∧ q.2.2.2.length = (nw q.1).length) (fun q => n - q.1) (0, some ⟨g1, 0, none⟩, 1, [.slice A1 (x.take col).length c1]) ⟨by dsimp only; omega, by dsimp only; rw [hst0]; rfl⟩ ⟨rfl, rfl, rfl, rfl, rfl, rfl, by dsimp only; rw [hst0]; rfl, rfl, rfl, trivial⟩ ?_ ?_
        · dsimp only
          rw [hst0]
          refine ((Ent.sel [2, 2, 2, 0, 0] _ (by rfl))).trans (Ent.cons _ (Ent.cons _ (Ent.cons _ (Ent.cons _ ?_))))
          exact (Ent.rowA_in A1 c1 (x.take col) []).trans (Ent.one_seps _ _)
        rintro ⟨j, A2, c2, vs⟩ ⟨hj, hvl⟩
        dsimp only at hj hvl ⊢
        obtain ⟨hnl, hnt⟩ := hpiece j hj
        have hk1 := (hkb j hj).1
        repeat first | refine W_seq ?_ | refine W_region (by rfl) ?_ | refine W_opsnil ?_ | refine W_pure TOk (by rfl) (by first | trivial | (simp only [okI, and_true, true_and, and_self] <;> omega) | omega) ?_
        refine W_cond_d (by rfl) (fun hlt => ?_) (fun hge => ?_)
        · have hsj := hstep j
          obtain ⟨hnl1, hnt1⟩ := hpiece (j + 1) (by omega)
          have hk2 := (hkb (j + 1) (by omega)).1
          have hsl : (nw (j + 1)).length = (nw j).length + (G.length - 1) := by rw [hsj]; unfold stepP; rw [List.length_append, List.length_set, hgl]
          generalize hN : nw j = N at *
          have hN1 : 0 < N.length := by omega
          have hcst : ((N.length : Nat) : Int) - 1 = ((N.length - 1 : Nat) : Int) := by omega
          have hlastg := rowN_get (xss := N) (i := N.length - 1) (by omega)
          have hlastl := rowN_len (xss := N) (i := N.length - 1) (by omega)
          obtain ⟨v, hv⟩ : ∃ v, vs[N.length - 1]? = some v := ⟨_, List.getElem?_eq_getElem (by omega)⟩
          repeat first | refine W_seq ?_ | refine W_skip ?_ | refine W_block ?_ | refine W_region (by rfl) ?_ | refine W_opsnil ?_ | refine W_pure TOk (by rfl) (by first | trivial | (simp only [okI, and_true, true_and, and_self] <;> omega) | omega) ?_
          rw [hcst]
          refine W_pick 4 (by rfl) ?_
          refine W_ent (rowsA_split vs N hvl hv hlastg _) ?_
          refine W_rowA (fun A9 c9 hvA => ?_)
          subst hvA
          refine W_draw (fun w1 => St _ _ w1 [own 48 1 A2 N.length c2 vs, box b7 54 [.int .i64 0, .slice AG G.length cG]]) [12] [(0, 0), (1, 0), (2, 0), (3, 0), (4, 0), (5, 0), (6, 0), (7, 0), (8, 0), (9, 0), (10, 1), (11, 0), (12, 2)] (by kernel_rfl) (fun _ h => h.ent (Ent.sel [6, 4] _ (by rfl))) (by rfl) (by kernel_rfl) (fun hB => ?_)
          repeat first | refine D_pure TOk (by kernel_rfl) hB (by rfl) (by rfl) (by first | trivial | (simp only [okI, and_true, true_and, and_self] <;> omega) | omega) (fun hB => ?_)
          refine D_index TOk (by kernel_rfl) hB (by rfl) (by rfl) (fun _ h => h.ent (Ent.sel [6, 4] _ (by rfl))) (fun _ h => h) (by rfl) (by rfl) (by rfl) (by first | exact es48 | exact es22 | exact es136 | exact es150 | exact es223 | exact es29 | exact es132 | exact es207) (by omega) (by omega) (fun w1 hw => (hw.hp.cells 0 rfl).isSome (by omega)) (fun hB => ?_)
          refine D_load TOk (by kernel_rfl) hB (by rfl) (by rfl) (fun _ h => h.ent (Ent.sel [6, 4] _ (by rfl))) (fun _ h => h) (by rfl) (by rfl) (by rfl) (fun w1 hw => (hw.hp.cells 0 rfl).elem1 (by rw [Int.toNat_natCast]; exact hv)) (fun hB => ?_)
          repeat first | refine D_pure TOk (by kernel_rfl) hB (by rfl) (by rfl) (by first | trivial | (simp only [okI, and_true, true_and, and_self] <;> omega) | omega) (fun hB => ?_)
          refine D_load_box 1 TOk (by kernel_rfl) hB (by rfl) (by rfl) (by rfl) (by rfl) (by rfl) (fun _ h => h.ent (Ent.sel [6, 4] _ (by rfl))) (by rfl) (by rfl) (fun hB => ?_)
          refine D_index TOk (by kernel_rfl) hB (by rfl) (by rfl) (fun _ h => h.ent (Ent.sel [6, 4] _ (by rfl))) (fun _ h => h) (by rfl) (by rfl) (by rfl) (by first | exact es48 | exact es22 | exact es136 | exact es150 | exact es223 | exact es29 | exact es132 | exact es207) (by omega) (by omega) (fun w1 hw => (hG.below hw.below).isSome (by omega)) (fun hB => ?_)
          refine D_load TOk (by kernel_rfl) hB (by rfl) (by rfl) (fun _ h => h.ent (Ent.sel [6, 4] _ (by rfl))) (fun _ h => h) (by rfl) (by rfl) (by rfl) (fun w1 hw => cells_elem1 hvs0 hw.below) (fun hB => ?_)
          refine D_one hB (by rfl) (fun hB => ?_)
          refine W_append_own 0 TOk (by rfl) (by rfl) (by rfl) (by first | exact sl48 | exact sl22 | exact sl136 | exact sl150 | exact sl223 | exact sl29 | exact sl132 | exact sl207) (by rfl) (fun w1 hw => hB0.below hw.below) (by simp [i32s_length, i64s_length]) (by first | exact i32s_one _ | exact i64s_one _ | exact one_of _ rfl) (by unfold maxLen; omega) (by omega) (fun A10 c10 => ?_); dsimp only [setL]
          repeat first | refine W_opsnil ?_
          refine D_shown (fun _ h => h.ent (Ent.sel [6, 4] _ (by rfl))) ?_
          refine D_index TOk (by kernel_rfl) hB (by rfl) (by rfl) (fun _ h => h.ent (Ent.sel [6, 4] _ (by rfl))) (fun _ h => h) (by rfl) (by rfl) (by rfl) (by first | exact es48 | exact es22 | exact es136 | exact es150 | exact es223 | exact es29 | exact es132 | exact es207) (by omega) (by omega) (fun w1 hw => (hw.hp.cells 0 rfl).isSome (by omega)) (fun hB => ?_)
          refine D_last hB (by rfl) (fun hB => ?_)
          refine W_store_own 6 TOk (by rfl) ptr_at (by rfl) (by rfl) (by rfl) (by simp only [vcells, List.length_cons, List.length_nil]; omega) (by omega) (by rfl) ?_
          simp only [Int.toNat_natCast, Nat.mul_one, vcells, setL, putL_set]
          repeat first | refine W_opsnil ?_
          repeat first | refine D_done hB ?_
          refine W_ent ((Ent.own_cast (by rw [← List.length_append]) (show i32s (rowN N (N.length - 1)) ++ i32s (rowN G 0) = i32s (rowN N (N.length - 1) ++ rowN G 0) by simp [i32s]) _).trans (Ent.rowA_in A10 c10 (rowN N (N.length - 1) ++ rowN G 0) _)) ?_
          refine W_ent (rowsA_join vs N hvl (by omega) _) ?_
          repeat first | refine W_region (by rfl) ?_ | refine W_pure TOk (by rfl) (by first | trivial | (simp only [okI, and_true, true_and, and_self] <;> omega) | omega) ?_ | refine W_load_box 2 TOk (by rfl) (by rfl) (by rfl) (by rfl) (by rfl) ?_
          simp only [show Try.t48.size = 1 from rfl, Int.toNat_natCast, Int.toNat_one]
          refine W_call (vs := [.slice (cutA AG 1 cG 1) ((G.drop 1).take (G.length - 1)).length (cG - 1)]) _ (by rfl) Try.call127 ?_ (fun w1 hw => Lines_c w1 (cutA AG 1 cG 1) (cG - 1) ((G.drop 1).take (G.length - 1)) ((hG.below hw.below).cut 1 G.length cG (by omega)) (by rw [dropr]; omega)) ?_
          · rw [dropr, hgl]; rfl
          rw [dropr]
          rintro _ _ ⟨A11, c11, vs3, rfl, hv3, rfl⟩
          rw [hgl] at hv3 ⊢
          dsimp only [List.cons_append, List.nil_append]
          refine W_rowsOne 1 (by rfl) (by rw [hv3, hgl]) (fun h1c => ?_)
          refine W_append_own 6 TOk (by rfl) (by rfl) (by rfl) sl22 (by rfl) (fun w1 hw => hw.hp.cells 0 rfl) (by rw [hv3, Nat.mul_one]) h1c (by unfold maxLen; omega) (by omega) (fun A12 c12 => ?_); dsimp only [setL]
          repeat first | refine W_blk ?_ | refine W_region (by rfl) ?_ | refine W_opsnil ?_ | refine W_pure TOk (by rfl) (by first | trivial | (simp only [okI, and_true, true_and, and_self] <;> omega) | omega) ?_
          refine W_inv (j + 1, A12, c12, vs.set (N.length - 1) (.slice A10 (rowN N (N.length - 1) ++ rowN G 0).length c10) ++ vs3) ⟨by dsimp only; omega, by dsimp only; rw [hsl, List.length_append, List.length_set, hvl, hv3]⟩ (by dsimp only; omega) ⟨rfl, rfl, rfl, rfl, rfl, rfl, ?_, rfl, rfl, trivial⟩ ?_
          · dsimp only; rw [hsl]; rfl
          · dsimp only
            rw [hsl, hsj]
            refine ((Ent.sel [3, 3, 3, 3, 2, 1] _ (by rfl))).trans (Ent.cons _ (Ent.cons _ (Ent.cons _ ?_)))
            rw [List.length_append]
            exact Ent.cons _ (Ent.rowsA_app (by rw [List.length_set, List.length_set, hvl]) _)
        · have hje : j = n := by omega
          subst hje
          generalize hN : nw j = N at *
          have hN1 : 0 < N.length := by omega
          have hcst : ((N.length : Nat) : Int) - 1 = ((N.length - 1 : Nat) : Int) := by omega
          have hlastg := rowN_get (xss := N) (i := N.length - 1) (by omega)
          have hlastl := rowN_len (xss := N) (i := N.length - 1) (by omega)
          have hlastd : lastN N = rowN N (N.length - 1) := rfl
          rw [hlastd]
          obtain ⟨v, hv⟩ : ∃ v, vs[N.length - 1]? = some v := ⟨_, List.getElem?_eq_getElem (by omega)⟩
          repeat first | refine W_seq ?_ | refine W_exit (by rfl) ?_ | refine W_region (by rfl) ?_ | refine W_opsnil ?_ | refine W_pure TOk (by rfl) (by first | trivial | (simp only [okI, and_true, true_and, and_self] <;> omega) | omega) ?_
          rw [hcst]
          refine W_pick 4 (by rfl) ?_
          refine W_ent (rowsA_split vs N hvl hv hlastg _) ?_
          refine W_rowA (fun A9 c9 hvA => ?_)
          subst hvA
          refine W_index TOk (by rfl) (by rfl) (by rfl) (by first | exact es48 | exact es22 | exact es136 | exact es150 | exact es223 | exact es29 | exact es132 | exact es207) (by omega) (by omega) (fun w1 hw => (hw.hp.cells 6 rfl).isSome (by omega)) ?_
          refine W_load TOk (by rfl) (by rfl) (by rfl) (fun w1 hw => (hw.hp.cells 6 rfl).elem1 (by rw [Int.toNat_natCast]; exact hv)) ?_
          repeat first | refine W_seq ?_ | refine W_opsnil ?_ | refine W_pure TOk (by rfl) (by first | trivial | (simp only [okI, and_true, true_and, and_self] <;> omega) | omega) ?_
          have hcut := hB_.cut32 col x.length cB (by omega)
          rw [dropc] at hcut
          have hxd : (x.drop col).length = x.length - col := List.length_drop ..
          have hNt := hnt
          refine W_draw (fun w1 => St _ _ w1 [own 48 1 A2 N.length c2 vs]) [11] [(0, 0), (1, 0), (2, 0), (3, 0), (4, 0), (5, 0), (6, 0), (7, 0), (8, 0), (9, 1), (10, 0), (11, 2)] (by kernel_rfl) (fun _ h => h.ent (Ent.sel [6] _ (by rfl))) (by rfl) (by kernel_rfl) (fun hB => ?_)
          repeat first | refine D_pure TOk (by kernel_rfl) hB (by rfl) (by rfl) (by first | trivial | (simp only [okI, and_true, true_and, and_self] <;> omega) | omega) (fun hB => ?_)
          refine D_index TOk (by kernel_rfl) hB (by rfl) (by rfl) (fun _ h => h.ent (Ent.sel [6] _ (by rfl))) (fun _ h => h) (by rfl) (by rfl) (by rfl) (by first | exact es48 | exact es22 | exact es136 | exact es150 | exact es223 | exact es29 | exact es132 | exact es207) (by omega) (by omega) (fun w1 hw => (hw.hp.cells 0 rfl).isSome (by omega)) (fun hB => ?_)
          refine D_load TOk (by kernel_rfl) hB (by rfl) (by rfl) (fun _ h => h.ent (Ent.sel [6] _ (by rfl))) (fun _ h => h) (by rfl) (by rfl) (by rfl) (fun w1 hw => (hw.hp.cells 0 rfl).elem1 (by rw [Int.toNat_natCast]; exact hv)) (fun hB => ?_)
          repeat first | refine D_pure TOk (by kernel_rfl) hB (by rfl) (by rfl) (by first | trivial | (simp only [okI, and_true, true_and, and_self] <;> omega) | omega) (fun hB => ?_)
          refine D_one hB (by rfl) (fun hB => ?_)
          simp only [Int.toNat_natCast]
          refine W_append_own 0 TOk (by rfl) (by rfl) (by rfl) (by first | exact sl48 | exact sl22 | exact sl136 | exact sl150 | exact sl223 | exact sl29 | exact sl132 | exact sl207) (by rfl) (fun w1 hw => (hcut.below hw.below)) (by simp [i32s_length, i64s_length]) (by first | exact i32s_one _ | exact i64s_one _ | exact one_of _ rfl) (by unfold maxLen; omega) (by omega) (fun A10 c10 => ?_); dsimp only [setL]
          repeat first | refine W_opsnil ?_
          refine D_shown (fun _ h => h.ent (Ent.sel [6] _ (by rfl))) ?_
          refine D_index TOk (by kernel_rfl) hB (by rfl) (by rfl) (fun _ h => h.ent (Ent.sel [6] _ (by rfl))) (fun _ h => h) (by rfl) (by rfl) (by rfl) (by first | exact es48 | exact es22 | exact es136 | exact es150 | exact es223 | exact es29 | exact es132 | exact es207) (by omega) (by omega) (fun w1 hw => (hw.hp.cells 0 rfl).isSome (by omega)) (fun hB => ?_)
          refine D_last hB (by rfl) (fun hB => ?_)
          refine W_store_own 6 TOk (by rfl) ptr_at (by rfl) (by rfl) (by rfl) (by simp only [vcells, List.length_cons, List.length_nil]; omega) (by omega) (by rfl) ?_
          simp only [Int.toNat_natCast, Nat.mul_one, vcells, setL, putL_set]
          repeat first | refine W_opsnil ?_
          repeat first | refine D_done hB ?_
          rw [show x.length - col = (x.drop col).length from hxd.symm]
          refine W_ent ((Ent.own_cast (by rw [← List.length_append]) (show i32s (rowN N (N.length - 1)) ++ i32s (x.drop col) = i32s (rowN N (N.length - 1) ++ x.drop col) by simp [i32s]) _).trans (Ent.rowA_in A10 c10 (rowN N (N.length - 1) ++ x.drop col) _)) ?_
          refine W_ent (rowsA_join vs N hvl (by omega) _) ?_
          repeat first | refine W_seq ?_ | refine W_region (by rfl) ?_ | refine W_pure TOk (by rfl) (by first | trivial | (simp only [okI, and_true, true_and, and_self] <;> omega) | omega) ?_ | refine W_load_box 3 TOk (by rfl) (by rfl) (by rfl) (by rfl) (by rfl) ?_
          have hNS : tot (N.set (N.length - 1) (rowN N (N.length - 1) ++ x.drop col)) = tot N + (x.drop col).length := tot_set (by omega) _
          have hNl : (N.set (N.length - 1) (rowN N (N.length - 1) ++ x.drop col)).length = N.length := List.length_set ..
          have hvl2 : (vs.set (N.length - 1) (.slice A10 (rowN N (N.length - 1) ++ x.drop col).length c10)).length = N.length := by rw [List.length_set, hvl]
          rw [show (rowN N (N.length - 1)).length + (x.drop col).length = (rowN N (N.length - 1) ++ x.drop col).length from List.length_append.symm]
          generalize N.set (N.length - 1) (rowN N (N.length - 1) ++ x.drop col) = D at *
          generalize vs.set (N.length - 1) (.slice A10 (rowN N (N.length - 1) ++ x.drop col).length c10) = vs' at *
          refine W_rowsOne 0 (by rfl) (hvl2.trans hNl.symm) (fun h1r => ?_)
          have htl : (L.take p.1).length = p.1 := by rw [List.length_take]; omega
          have hdl : (L.drop (p.1 + 1)).length = L.length - (p.1 + 1) := List.length_drop ..
          have htt := tot_take L p.1
          have htd := tot_drop L (p.1 + 1)
          refine W_call _ (by rfl) Try.call121 (by rfl) (fun w1 hw => put_c w1 A c0 L (hl.below hw.below) hc (by omega) p.1 (p.1 + 1) (by omega) (by omega) A2 N.length c2 vs' (hw.hp.cells 4 rfl) hvl2 h1r (by omega)) ?_
          rintro _ _ ⟨A5, c5, vs1, vs2, rfl, hv1, hv2, rfl⟩
          dsimp only [List.cons_append, List.nil_append]
          refine W_ent ((Ent.sel [0, 0, 1, 0, 0, 0, 0] _ (by rfl))) ?_
          refine W_ent (Ent.cons _ (Ent.rowsA_app (by rw [hv1, htl]) _)) ?_
          refine W_ent (Ent.cons _ (Ent.rowsA_app (by rw [List.length_append, List.length_append, hv1, htl, hvl2, hNl]) _)) ?_
          have hout : (L.take p.1 ++ D ++ L.drop (p.1 + 1)).length = p.1 + N.length + (L.length - (p.1 + 1)) := by rw [List.length_append, List.length_append, htl, hdl, hNl]
          have htot : tot (L.take p.1 ++ D ++ L.drop (p.1 + 1)) ≤ 4 * tot L + 131072 := by rw [tot_append, tot_append]; omega
          generalize L.take p.1 ++ D ++ L.drop (p.1 + 1) = O at *
          have hvo : (vs1 ++ vs' ++ vs2).length = O.length := by rw [hout, List.length_append, List.length_append, hv1, hv2, hvl2]
          rw [← hout]
          generalize vs1 ++ vs' ++ vs2 = vo at *
          repeat first | refine W_seq ?_ | refine W_region (by rfl) ?_ | refine W_opsnil ?_ | refine W_pure TOk (by rfl) (by first | trivial | (simp only [okI, and_true, true_and, and_self] <;> omega) | omega) ?_
          refine W_cond_d (by rfl) (fun hgt => ?_) (fun hgt => ?_)
          · rw [if_pos (show 1 < N.length by omega)]
            repeat first | refine W_seq ?_ | refine W_region (by rfl) ?_ | refine W_opsnil ?_ | refine W_pure TOk (by rfl) (by first | trivial | (simp only [okI, and_true, true_and, and_self] <;> omega) | omega) ?_ | refine W_load_boxN 4 TOk (by rfl) (by rfl) (by rfl) (by rfl) (by rfl) ?_ | (refine W_store_box 4 TOk (by rfl) (by rfl) (by rfl) (by rfl) (by rfl) (by rfl) ?_; dsimp only [setL, putL, vcells])
            refine W_callV (by rfl) Try.call123 (by rfl) (fun w1 hw => Clip_c w1 A5 c5 O (rows_of hw.hp 0 1 rfl rfl hvo) (by omega) ((p.1 : Nat) : Int) ((col : Nat) : Int)) ?_
            refine W_callV (by rfl) Try.call128 (by rfl) (fun w1 hw => ofits_c w1 A5 c5 O (rows_of hw.hp 0 1 rfl rfl hvo) (by omega) (((clipS O ((p.1 : Nat) : Int) ((col : Nat) : Int)).1 : Nat) : Int) (((clipS O ((p.1 : Nat) : Int) ((col : Nat) : Int)).2 : Nat) : Int)) ?_
            obtain ⟨MM, hent, hlinr⟩ := fit_lin (A := A5) (c := c5) (q := clipS O ((p.1 : Nat) : Int) ((col : Nat) : Int)) hvo
            unfold posN at hlinr
            unfold fitV at hlinr ⊢
            by_cases hfit : 65536 < runes O
            · rw [if_pos hfit] at hlinr ⊢
              repeat first | refine W_opsnil ?_ | refine W_pure TOk (by rfl) (by first | trivial | (simp only [okI, and_true, true_and, and_self] <;> omega) | omega) ?_ | (refine W_store_box 2 TOk (by rfl) (by rfl) (by rfl) (by rfl) (by rfl) (by rfl) ?_; dsimp only [setL, putL, vcells])
              exact W_retF (vs := [_, _, _]) ⟨rfl, rv_box 2 TOk rfl rfl rfl, rfl, trivial⟩ (M := MM) (((Ent.sel [0, 0] _ (by rfl))).trans hent) hlinr
            · rw [if_neg hfit] at hlinr ⊢
              repeat first | refine W_opsnil ?_ | refine W_pure TOk (by rfl) (by first | trivial | (simp only [okI, and_true, true_and, and_self] <;> omega) | omega) ?_ | (refine W_store_box 2 TOk (by rfl) (by rfl) (by rfl) (by rfl) (by rfl) (by rfl) ?_; dsimp only [setL, putL, vcells])
              exact W_retF (vs := [_, _, _]) ⟨rfl, rv_box 2 TOk rfl rfl rfl, rfl, trivial⟩ (M := MM) (((Ent.sel [0, 0] _ (by rfl))).trans hent) hlinr
          · rw [if_neg (show ¬ 1 < N.length by omega)]
            repeat first | refine W_seq ?_ | refine W_region (by rfl) ?_ | refine W_pure TOk (by rfl) (by first | trivial | (simp only [okI, and_true, true_and, and_self] <;> omega) | omega) ?_ | refine W_load_box 3 TOk (by rfl) (by rfl) (by rfl) (by rfl) (by rfl) ?_
            refine W_index TOk (by rfl) (by rfl) (by rfl) (by first | exact es48 | exact es22 | exact es136 | exact es150 | exact es223 | exact es29 | exact es132 | exact es207) (by omega) (by omega) (fun w1 hw => (hG.below hw.below).isSome (by omega)) ?_
            refine W_load TOk (by rfl) (by rfl) (by rfl) (fun w1 hw => cells_elem1 hvs0 hw.below) ?_
            repeat first | refine W_opsnil ?_ | refine W_pure TOk (by rfl) (by first | trivial | (simp only [okI, and_true, true_and, and_self] <;> omega) | omega) ?_
            refine W_cond_d (by rfl) (fun hgp => ?_) (fun hgp => ?_)
            · rw [if_pos (show 0 < (rowN G 0).length by omega)]
              repeat first | refine W_seq ?_ | refine W_region (by rfl) ?_ | refine W_opsnil ?_ | refine W_pure TOk (by rfl) (by first | trivial | (simp only [okI, and_true, true_and, and_self] <;> omega) | omega) ?_ | refine W_load_boxN 4 TOk (by rfl) (by rfl) (by rfl) (by rfl) (by rfl) ?_ | (refine W_store_box 4 TOk (by rfl) (by rfl) (by rfl) (by rfl) (by rfl) (by rfl) ?_; dsimp only [setL, putL, vcells])
              refine W_callV (by rfl) Try.call123 (by rfl) (fun w1 hw => Clip_c w1 A5 c5 O (rows_of hw.hp 0 1 rfl rfl hvo) (by omega) ((p.1 : Nat) : Int) (((rowN N (N.length - 1)).length : Nat) - 1)) ?_
              refine W_callV (by rfl) Try.call128 (by rfl) (fun w1 hw => ofits_c w1 A5 c5 O (rows_of hw.hp 0 1 rfl rfl hvo) (by omega) (((clipS O ((p.1 : Nat) : Int) (((rowN N (N.length - 1)).length : Nat) - 1)).1 : Nat) : Int) (((clipS O ((p.1 : Nat) : Int) (((rowN N (N.length - 1)).length : Nat) - 1)).2 : Nat) : Int)) ?_
              obtain ⟨MM, hent, hlinr⟩ := fit_lin (A := A5) (c := c5) (q := clipS O ((p.1 : Nat) : Int) (((rowN N (N.length - 1)).length : Nat) - 1)) hvo
              unfold posN at hlinr
              unfold fitV at hlinr ⊢
              by_cases hfit : 65536 < runes O
              · rw [if_pos hfit] at hlinr ⊢
                repeat first | refine W_opsnil ?_ | refine W_pure TOk (by rfl) (by first | trivial | (simp only [okI, and_true, true_and, and_self] <;> omega) | omega) ?_ | (refine W_store_box 2 TOk (by rfl) (by rfl) (by rfl) (by rfl) (by rfl) (by rfl) ?_; dsimp only [setL, putL, vcells])
                exact W_retF (vs := [_, _, _]) ⟨rfl, rv_box 2 TOk rfl rfl rfl, rfl, trivial⟩ (M := MM) (((Ent.sel [0, 0] _ (by rfl))).trans hent) hlinr
              · rw [if_neg hfit] at hlinr ⊢
                repeat first | refine W_opsnil ?_ | refine W_pure TOk (by rfl) (by first | trivial | (simp only [okI, and_true, true_and, and_self] <;> omega) | omega) ?_ | (refine W_store_box 2 TOk (by rfl) (by rfl) (by rfl) (by rfl) (by rfl) (by rfl) ?_; dsimp only [setL, putL, vcells])
                exact W_retF (vs := [_, _, _]) ⟨rfl, rv_box 2 TOk rfl rfl rfl, rfl, trivial⟩ (M := MM) (((Ent.sel [0, 0] _ (by rfl))).trans hent) hlinr
            · rw [if_neg (show ¬ 0 < (rowN G 0).length by omega)]
              repeat first | refine W_seq ?_ | refine W_skip ?_ | refine W_region (by rfl) ?_ | refine W_pure TOk (by rfl) (by first | trivial | (simp only [okI, and_true, true_and, and_self] <;> omega) | omega) ?_ | refine W_load_boxN 4 TOk (by rfl) (by rfl) (by rfl) (by rfl) (by rfl) ?_
              refine W_callV (by rfl) Try.call123 (by rfl) (fun w1 hw => Clip_c w1 A5 c5 O (rows_of hw.hp 0 1 rfl rfl hvo) (by omega) ((p.1 : Nat) : Int) ((col : Nat) : Int)) ?_
              refine W_callV (by rfl) Try.call128 (by rfl) (fun w1 hw => ofits_c w1 A5 c5 O (rows_of hw.hp 0 1 rfl rfl hvo) (by omega) (((clipS O ((p.1 : Nat) : Int) ((col : Nat) : Int)).1 : Nat) : Int) (((clipS O ((p.1 : Nat) : Int) ((col : Nat) : Int)).2 : Nat) : Int)) ?_
              obtain ⟨MM, hent, hlinr⟩ := fit_lin (A := A5) (c := c5) (q := clipS O ((p.1 : Nat) : Int) ((col : Nat) : Int)) hvo
              unfold posN at hlinr
              unfold fitV at hlinr ⊢
              by_cases hfit : 65536 < runes O
              · rw [if_pos hfit] at hlinr ⊢
                repeat first | refine W_opsnil ?_ | refine W_pure TOk (by rfl) (by first | trivial | (simp only [okI, and_true, true_and, and_self] <;> omega) | omega) ?_ | (refine W_store_box 2 TOk (by rfl) (by rfl) (by rfl) (by rfl) (by rfl) (by rfl) ?_; dsimp only [setL, putL, vcells])
                exact W_retF (vs := [_, _, _]) ⟨rfl, rv_box 2 TOk rfl rfl rfl, rfl, trivial⟩ (M := MM) (((Ent.sel [0, 0] _ (by rfl))).trans hent) hlinr
              · rw [if_neg hfit] at hlinr ⊢
                repeat first | refine W_opsnil ?_ | refine W_pure TOk (by rfl) (by first | trivial | (simp only [okI, and_true, true_and, and_self] <;> omega) | omega) ?_ | (refine W_store_box 2 TOk (by rfl) (by rfl) (by rfl) (by rfl) (by rfl) (by rfl) ?_; dsimp only [setL, putL, vcells])
                exact W_retF (vs := [_, _, _]) ⟨rfl, rv_box 2 TOk rfl rfl rfl, rfl, trivial⟩ (M := MM) (((Ent.sel [0, 0] _ (by rfl))).trans hent) hlinr
    · have hc1 : ((p.2 : Nat) : Int) = ((col : Nat) : Int) := by rw [hcol, if_neg (fun h => by rw [hbh] at h; cases h.1)]
      repeat first | refine W_seq ?_ | refine W_skip ?_ | refine W_block ?_ | refine W_blk ?_ | refine W_region (by rfl) ?_ | refine W_opsnil ?_ | refine W_pure TOk (by rfl) (by first | trivial | (simp only [okI, and_true, true_and, and_self] <;> omega) | omega) ?_ | refine W_off (by rfl) (by rfl) (by rfl) (by rfl) (by rfl) ?_ | refine W_cond_f (by rfl) ?_ | refine W_load_box 1 TOk (by rfl) (by rfl) (by rfl) (by rfl) (by rfl) ?_ | refine W_load_box 2 TOk (by rfl) (by rfl) (by rfl) (by rfl) (by rfl) ?_
      rw [hc1]
      refine W_index TOk (by rfl) (by rfl) (by rfl) (by first | exact es48 | exact es22 | exact es136 | exact es150 | exact es223 | exact es29 | exact es132 | exact es207) (by omega) (by omega) (fun w1 hw => (hl.below hw.below).isSome (by omega)) ?_
      refine W_load TOk (by rfl) (by rfl) (by rfl) (fun w1 hw => cells_elem1 hvs hw.below) ?_
      repeat first | refine W_seq ?_ | refine W_region (by rfl) ?_ | refine W_opsnil ?_ | refine W_pure TOk (by rfl) (by first | trivial | (simp only [okI, and_true, true_and, and_self] <;> omega) | omega) ?_
      simp only [show Try.t21.size = 1 from rfl, show Try.t48.size = 1 from rfl, Int.toNat_natCast, Int.toNat_zero, Nat.sub_zero]
      have e0 : ((x.drop 0).take (col - 0)).length = col := by rw [List.drop_zero, Nat.sub_zero, List.length_take]; omega
      refine W_call (vs := [.slice (cutA B 0 cB 1) ((x.drop 0).take (col - 0)).length cB]) _ (by rfl) Try.call115 ?_ (fun w1 hw => Clone_c w1 (cutA B 0 cB 1) cB ((x.drop 0).take (col - 0)) ((hB_.below hw.below).cut32 0 col cB (by omega)) (by omega)) ?_
      · rw [e0]; rfl
      rw [show (x.drop 0).take (col - 0) = x.take col by rw [List.drop_zero, Nat.sub_zero]]
      rintro _ _ ⟨A1, c1, rfl, rfl⟩
      dsimp only [List.cons_append, List.nil_append]
      refine W_lit TOk (cs := [_]) (by rfl) (by first | exact sl48 | exact sl22 | exact sl136 | exact sl150 | exact sl223 | exact sl29 | exact sl132 | exact sl207) (by rfl) (by rfl) (by rfl) (by rfl) (fun g1 => ?_)
      repeat first | refine W_seq ?_ | refine W_block ?_ | refine W_region (by rfl) ?_ | refine W_opsnil ?_ | refine W_pure TOk (by rfl) (by first | trivial | (simp only [okI, and_true, true_and, and_self] <;> omega) | omega) ?_
      have hkb : ∀ j, j ≤ n → j * (G.length - 1) ≤ 65536 ∧ j * ((rowN G 0).length + tot (G.drop 1)) ≤ 65536 := fun j hj => by
        have h1 : j * (G.length - 1) ≤ n * runes G := Nat.mul_le_mul hj (by omega)
        have h2 : j * ((rowN G 0).length + tot (G.drop 1)) ≤ n * runes G := Nat.mul_le_mul hj (by omega)
        omega
      have hpiece : ∀ j, j ≤ n → (stepsP (rowN G 0) (G.drop 1) (x.take col) j).length = 1 + j * (G.length - 1) ∧ tot (stepsP (rowN G 0) (G.drop 1) (x.take col) j) ≤ x.length + 65536 := fun j hj => by
        have h1 := stepsP_len (rowN G 0) (G.drop 1) (x.take col) j
        have h2 := stepsP_tot (rowN G 0) (G.drop 1) (x.take col) j
        have h3 := (hkb j hj).2
        rw [hgl] at h1
        have h4 : (x.take col).length ≤ x.length := by rw [List.length_take]; omega
        exact ⟨h1, by omega⟩
      have hstep : ∀ j, stepsP (rowN G 0) (G.drop 1) (x.take col) (j + 1) = stepP (rowN G 0) (G.drop 1) (stepsP (rowN G 0) (G.drop 1) (x.take col) j) := fun j => rfl
      have hst0 : stepsP (rowN G 0) (G.drop 1) (x.take col) 0 = [x.take col] := rfl
      generalize stepsP (rowN G 0) (G.drop 1) (x.take col) = nw at *
      refine W_loop (ι := Nat × Option Addr × Nat × List Value) (fun q => [(0, .slice A L.length c0), (6, .pointer (some ⟨b6, 0, none⟩)), (7, .pointer (some ⟨b7, 0, none⟩)), (11, .pointer (some ⟨b11, 0, none⟩)), (18, .int .i64 (col : Nat)), (23, .slice B x.length cB), (24, .slice q.2.1 (nw q.1).length q.2.2.1), (171, .int .i64 (n : Nat)), (172, .int .i64 (q.1 : Nat))])
        (fun q => [box b11 43 [.int .i64 0, .int .i64 0], box b7 54 [.int .i64 0, .slice AG G.length cG], box b6 43 [.int .i64 (p.1 : Nat), .int .i64 (col : Nat)], own 48 1 q.2.1 (nw q.1).length q.2.2.1 q.2.2.2, rowsA q.2.2.2 (nw q.1)])
        (fun q => q.1 ≤ n ∧ q.2.2.2.length = (nw q.1).length) (fun q => n - q.1) (0, some ⟨g1, 0, none⟩, 1, [.slice A1 (x.take col).length c1]) ⟨by dsimp only; omega, by dsimp only; rw [hst0]; rfl⟩ ⟨rfl, rfl, rfl, rfl, rfl, rfl, by dsimp only; rw [hst0]; rfl, rfl, rfl, trivial⟩ ?_ ?_
      · dsimp only
        rw [hst0]
        refine ((Ent.sel [2, 2, 2, 0, 0] _ (by rfl))).trans (Ent.cons _ (Ent.cons _ (Ent.cons _ (Ent.cons _ ?_))))
        exact (Ent.rowA_in A1 c1 (x.take col) []).trans (Ent.one_seps _ _)
      rintro ⟨j, A2, c2, vs⟩ ⟨hj, hvl⟩
      dsimp only at hj hvl ⊢
      obtain ⟨hnl, hnt⟩ := hpiece j hj
      have hk1 := (hkb j hj).1
      repeat first | refine W_seq ?_ | refine W_region (by rfl) ?_ | refine W_opsnil ?_ | refine W_pure TOk (by rfl) (by first | trivial | (simp only [okI, and_true, true_and, and_self] <;> omega) | omega) ?_
      refine W_cond_d (by rfl) (fun hlt => ?_) (fun hge => ?_)
      · have hsj := hstep j
        obtain ⟨hnl1, hnt1⟩ := hpiece (j + 1) (by omega)
        have hk2 := (hkb (j + 1) (by omega)).1
        have hsl : (nw (j + 1)).length = (nw j).length + (G.length - 1) := by rw [hsj]; unfold stepP; rw [List.length_append, List.length_set, hgl]
        generalize hN : nw j = N at *
        have hN1 : 0 < N.length := by omega
        have hcst : ((N.length : Nat) : Int) - 1 = ((N.length - 1 : Nat) : Int) := by omega
        have hlastg := rowN_get (xss := N) (i := N.length - 1) (by omega)
        have hlastl := rowN_len (xss := N) (i := N.length - 1) (by omega)
        obtain ⟨v, hv⟩ : ∃ v, vs[N.length - 1]? = some v := ⟨_, List.getElem?_eq_getElem (by omega)⟩
        repeat first | refine W_seq ?_ | refine W_skip ?_ | refine W_block ?_ | refine W_region (by rfl) ?_ | refine W_opsnil ?_ | refine W_pure TOk (by rfl) (by first | trivial | (simp only [okI, and_true, true_and, and_self] <;> omega) | omega) ?_
        rw [hcst]
        refine W_pick 4 (by rfl) ?_
        refine W_ent (rowsA_split vs N hvl hv hlastg _) ?_
        refine W_rowA (fun A9 c9 hvA => ?_)
        subst hvA
        refine W_draw (fun w1 => St _ _ w1 [own 48 1 A2 N.length c2 vs, box b7 54 [.int .i64 0, .slice AG G.length cG]]) [12] [(0, 0), (1, 0), (2, 0), (3, 0), (4, 0), (5, 0), (6, 0), (7, 0), (8, 0), (9, 0), (10, 1), (11, 0), (12, 2)] (by kernel_rfl) (fun _ h => h.ent (Ent.sel [6, 4] _ (by rfl))) (by rfl) (by kernel_rfl) (fun hB => ?_)
        repeat first | refine D_pure TOk (by kernel_rfl) hB (by rfl) (by rfl) (by first | trivial | (simp only [okI, and_true, true_and, and_self] <;> omega) | omega) (fun hB => ?_)
        refine D_index TOk (by kernel_rfl) hB (by rfl) (by rfl) (fun _ h => h.ent (Ent.sel [6, 4] _ (by rfl))) (fun _ h => h) (by rfl) (by rfl) (by rfl) (by first | exact es48 | exact es22 | exact es136 | exact es150 | exact es223 | exact es29 | exact es132 | exact es207) (by omega) (by omega) (fun w1 hw => (hw.hp.cells 0 rfl).isSome (by omega)) (fun hB => ?_)
        refine D_load TOk (by kernel_rfl) hB (by rfl) (by rfl) (fun _ h => h.ent (Ent.sel [6, 4] _ (by rfl))) (fun _ h => h) (by rfl) (by rfl) (by rfl) (fun w1 hw => (hw.hp.cells 0 rfl).elem1 (by rw [Int.toNat_natCast]; exact hv)) (fun hB => ?_)
        repeat first | refine D_pure TOk (by kernel_rfl) hB (by rfl) (by rfl) (by first | trivial | (simp only [okI, and_true, true_and, and_self] <;> omega) | omega) (fun hB => ?_)
        refine D_load_box 1 TOk (by kernel_rfl) hB (by rfl) (by rfl) (by rfl) (by rfl) (by rfl) (fun _ h => h.ent (Ent.sel [6, 4] _ (by rfl))) (by rfl) (by rfl) (fun hB => ?_)
        refine D_index TOk (by kernel_rfl) hB (by rfl) (by rfl) (fun _ h => h.ent (Ent.sel [6, 4] _ (by rfl))) (fun _ h => h) (by rfl) (by rfl) (by rfl) (by first | exact es48 | exact es22 | exact es136 | exact es150 | exact es223 | exact es29 | exact es132 | exact es207) (by omega) (by omega) (fun w1 hw => (hG.below hw.below).isSome (by omega)) (fun hB => ?_)
        refine D_load TOk (by kernel_rfl) hB (by rfl) (by rfl) (fun _ h => h.ent (Ent.sel [6, 4] _ (by rfl))) (fun _ h => h) (by rfl) (by rfl) (by rfl) (fun w1 hw => cells_elem1 hvs0 hw.below) (fun hB => ?_)
        refine D_one hB (by rfl) (fun hB => ?_)
        refine W_append_own 0 TOk (by rfl) (by rfl) (by rfl) (by first | exact sl48 | exact sl22 | exact sl136 | exact sl150 | exact sl223 | exact sl29 | exact sl132 | exact sl207) (by rfl) (fun w1 hw => hB0.below hw.below) (by simp [i32s_length, i64s_length]) (by first | exact i32s_one _ | exact i64s_one _ | exact one_of _ rfl) (by unfold maxLen; omega) (by omega) (fun A10 c10 => ?_); dsimp only [setL]
        repeat first | refine W_opsnil ?_
        refine D_shown (fun _ h => h.ent (Ent.sel [6, 4] _ (by rfl))) ?_
        refine D_index TOk (by kernel_rfl) hB (by rfl) (by rfl) (fun _ h => h.ent (Ent.sel [6, 4] _ (by rfl))) (fun _ h => h) (by rfl) (by rfl) (by rfl) (by first | exact es48 | exact es22 | exact es136 | exact es150 | exact es223 | exact es29 | exact es132 | exact es207) (by omega) (by omega) (fun w1 hw => (hw.hp.cells 0 rfl).isSome (by omega)) (fun hB => ?_)
        refine D_last hB (by rfl) (fun hB => ?_)
        refine W_store_own 6 TOk (by rfl) ptr_at (by rfl) (by rfl) (by rfl) (by simp only [vcells, List.length_cons, List.length_nil]; omega) (by omega) (by rfl) ?_
        simp only [Int.toNat_natCast, Nat.mul_one, vcells, setL, putL_set]
        repeat first | refine W_opsnil ?_
        repeat first | refine D_done hB ?_
        refine W_ent ((Ent.own_cast (by rw [← List.length_append]) (show i32s (rowN N (N.length - 1)) ++ i32s (rowN G 0) = i32s (rowN N (N.length - 1) ++ rowN G 0) by simp [i32s]) _).trans (Ent.rowA_in A10 c10 (rowN N (N.length - 1) ++ rowN G 0) _)) ?_
        refine W_ent (rowsA_join vs N hvl (by omega) _) ?_
        repeat first | refine W_region (by rfl) ?_ | refine W_pure TOk (by rfl) (by first | trivial | (simp only [okI, and_true, true_and, and_self] <;> omega) | omega) ?_ | refine W_load_box 2 TOk (by rfl) (by rfl) (by rfl) (by rfl) (by rfl) ?_
        simp only [show Try.t48.size = 1 from rfl, Int.toNat_natCast, Int.toNat_one]
        refine W_call (vs := [.slice (cutA AG 1 cG 1) ((G.drop 1).take (G.length - 1)).length (cG - 1)]) _ (by rfl) Try.call127 ?_ (fun w1 hw => Lines_c w1 (cutA AG 1 cG 1) (cG - 1) ((G.drop 1).take (G.length - 1)) ((hG.below hw.below).cut 1 G.length cG (by omega)) (by rw [dropr]; omega)) ?_
        · rw [dropr, hgl]; rfl
        rw [dropr]
        rintro _ _ ⟨A11, c11, vs3, rfl, hv3, rfl⟩
        rw [hgl] at hv3 ⊢
        dsimp only [List.cons_append, List.nil_append]
        refine W_rowsOne 1 (by rfl) (by rw [hv3, hgl]) (fun h1c => ?_)
        refine W_append_own 6 TOk (by rfl) (by rfl) (by rfl) sl22 (by rfl) (fun w1 hw => hw.hp.cells 0 rfl) (by rw [hv3, Nat.mul_one]) h1c (by unfold maxLen; omega) (by omega) (fun A12 c12 => ?_); dsimp only [setL]
        repeat first | refine W_blk ?_ | refine W_region (by rfl) ?_ | refine W_opsnil ?_ | refine W_pure TOk (by rfl) (by first | trivial | (simp only [okI, and_true, true_and, and_self] <;> omega) | omega) ?_
        refine W_inv (j + 1, A12, c12, vs.set (N.length - 1) (.slice A10 (rowN N (N.length - 1) ++ rowN G 0).length c10) ++ vs3) ⟨by dsimp only; omega, by dsimp only; rw [hsl, List.length_append, List.length_set, hvl, hv3]⟩ (by dsimp only; omega) ⟨rfl, rfl, rfl, rfl, rfl, rfl, ?_, rfl, rfl, trivial⟩ ?_
        · dsimp only; rw [hsl]; rfl
        · dsimp only
          rw [hsl, hsj]
          refine ((Ent.sel [3, 3, 3, 3, 2, 1] _ (by rfl))).trans (Ent.cons _ (Ent.cons _ (Ent.cons _ ?_)))
          rw [List.length_append]
          exact Ent.cons _ (Ent.rowsA_app (by rw [List.length_set, List.length_set, hvl]) _)
      · have hje : j = n := by omega
        subst hje
        generalize hN : nw j = N at *
        have hN1 : 0 < N.length := by omega
        have hcst : ((N.length : Nat) : Int) - 1 = ((N.length - 1 : Nat) : Int) := by omega
        have hlastg := rowN_get (xss := N) (i := N.length - 1) (by omega)
        have hlastl := rowN_len (xss := N) (i := N.length - 1) (by omega)
        have hlastd : lastN N = rowN N (N.length - 1) := rfl
        rw [hlastd]
        obtain ⟨v, hv⟩ : ∃ v, vs[N.length - 1]? = some v := ⟨_, List.getElem?_eq_getElem (by omega)⟩
        repeat first | refine W_seq ?_ | refine W_exit (by rfl) ?_ | refine W_region (by rfl) ?_ | refine W_opsnil ?_ | refine W_pure TOk (by rfl) (by first | trivial | (simp only [okI, and_true, true_and, and_self] <;> omega) | omega) ?_
        rw [hcst]
        refine W_pick 4 (by rfl) ?_
        refine W_ent (rowsA_split vs N hvl hv hlastg _) ?_
        refine W_rowA (fun A9 c9 hvA => ?_)
        subst hvA
        refine W_index TOk (by rfl) (by rfl) (by rfl) (by first | exact es48 | exact es22 | exact es136 | exact es150 | exact es223 | exact es29 | exact es132 | exact es207) (by omega) (by omega) (fun w1 hw => (hw.hp.cells 6 rfl).isSome (by omega)) ?_
        refine W_load TOk (by rfl) (by rfl) (by rfl) (fun w1 hw => (hw.hp.cells 6 rfl).elem1 (by rw [Int.toNat_natCast]; exact hv)) ?_
        repeat first | refine W_seq ?_ | refine W_opsnil ?_ | refine W_pure TOk (by rfl) (by first | trivial | (simp only [okI, and_true, true_and, and_self] <;> omega) | omega) ?_
        have hcut := hB_.cut32 col x.length cB (by omega)
        rw [dropc] at hcut
        have hxd : (x.drop col).length = x.length - col := List.length_drop ..
        have hNt := hnt
        refine W_draw (fun w1 => St _ _ w1 [own 48 1 A2 N.length c2 vs]) [11] [(0, 0), (1, 0), (2, 0), (3, 0), (4, 0), (5, 0), (6, 0), (7, 0), (8, 0), (9, 1), (10, 0), (11, 2)] (by kernel_rfl) (fun _ h => h.ent (Ent.sel [6] _ (by rfl))) (by rfl) (by kernel_rfl) (fun hB => ?_)
        repeat first | refine D_pure TOk (by kernel_rfl) hB (by rfl) (by rfl) (by first | trivial | (simp only [okI, and_true, true_and, and_self] <;> omega) | omega) (fun hB => ?_)
        refine D_index TOk (by kernel_rfl) hB (by rfl) (by rfl) (fun _ h => h.ent (Ent.sel [6] _ (by rfl))) (fun _ h => h) (by rfl) (by rfl) (by rfl) (by first | exact es48 | exact es22 | exact es136 | exact es150 | exact es223 | exact es29 | exact es132 | exact es207) (by omega) (by omega) (fun w1 hw => (hw.hp.cells 0 rfl).isSome (by omega)) (fun hB => ?_)
        refine D_load TOk (by kernel_rfl) hB (by rfl) (by rfl) (fun _ h => h.ent (Ent.sel [6] _ (by rfl))) (fun _ h => h) (by rfl) (by rfl) (by rfl) (fun w1 hw => (hw.hp.cells 0 rfl).elem1 (by rw [Int.toNat_natCast]; exact hv)) (fun hB => ?_)
        repeat first | refine D_pure TOk (by kernel_rfl) hB (by rfl) (by rfl) (by first | trivial | (simp only [okI, and_true, true_and, and_self] <;> omega) | omega) (fun hB => ?_)
        refine D_one hB (by rfl) (fun hB => ?_)
        simp only [Int.toNat_natCast]
        refine W_append_own 0 TOk (by rfl) (by rfl) (by rfl) (by first | exact sl48 | exact sl22 | exact sl136 | exact sl150 | exact sl223 | exact sl29 | exact sl132 | exact sl207) (by rfl) (fun w1 hw => (hcut.below hw.below)) (by simp [i32s_length, i64s_length]) (by first | exact i32s_one _ | exact i64s_one _ | exact one_of _ rfl) (by unfold maxLen; omega) (by omega) (fun A10 c10 => ?_); dsimp only [setL]
        repeat first | refine W_opsnil ?_
        refine D_shown (fun _ h => h.ent (Ent.sel [6] _ (by rfl))) ?_
        refine D_index TOk (by kernel_rfl) hB (by rfl) (by rfl) (fun _ h => h.ent (Ent.sel [6] _ (by rfl))) (fun _ h => h) (by rfl) (by rfl) (by rfl) (by first | exact es48 | exact es22 | exact es136 | exact es150 | exact es223 | exact es29 | exact es132 | exact es207) (by omega) (by omega) (fun w1 hw => (hw.hp.cells 0 rfl).isSome (by omega)) (fun hB => ?_)
        refine D_last hB (by rfl) (fun hB => ?_)
        refine W_store_own 6 TOk (by rfl) ptr_at (by rfl) (by rfl) (by rfl) (by simp only [vcells, List.length_cons, List.length_nil]; omega) (by omega) (by rfl) ?_
        simp only [Int.toNat_natCast, Nat.mul_one, vcells, setL, putL_set]
        repeat first | refine W_opsnil ?_
        repeat first | refine D_done hB ?_
        rw [show x.length - col = (x.drop col).length from hxd.symm]
        refine W_ent ((Ent.own_cast (by rw [← List.length_append]) (show i32s (rowN N (N.length - 1)) ++ i32s (x.drop col) = i32s (rowN N (N.length - 1) ++ x.drop col) by simp [i32s]) _).trans (Ent.rowA_in A10 c10 (rowN N (N.length - 1) ++ x.drop col) _)) ?_
        refine W_ent (rowsA_join vs N hvl (by omega) _) ?_
        repeat first | refine W_seq ?_ | refine W_region (by rfl) ?_ | refine W_pure TOk (by rfl) (by first | trivial | (simp only [okI, and_true, true_and, and_self] <;> omega) | omega) ?_ | refine W_load_box 3 TOk (by rfl) (by rfl) (by rfl) (by rfl) (by rfl) ?_
        have hNS : tot (N.set (N.length - 1) (rowN N (N.length - 1) ++ x.drop col)) = tot N + (x.drop col).length := tot_set (by omega) _
        have hNl : (N.set (N.length - 1) (rowN N (N.length - 1) ++ x.drop col)).length = N.length := List.length_set ..
        have hvl2 : (vs.set (N.length - 1) (.slice A10 (rowN N (N.length - 1) ++ x.drop col).length c10)).length = N.length := by rw [List.length_set, hvl]
        rw [show (rowN N (N.length - 1)).length + (x.drop col).length = (rowN N (N.length - 1) ++ x.drop col).length from List.length_append.symm]
        generalize N.set (N.length - 1) (rowN N (N.length - 1) ++ x.drop col) = D at *
        generalize vs.set (N.length - 1) (.slice A10 (rowN N (N.length - 1) ++ x.drop col).length c10) = vs' at *
        refine W_rowsOne 0 (by rfl) (hvl2.trans hNl.symm) (fun h1r => ?_)
        have htl : (L.take p.1).length = p.1 := by rw [List.length_take]; omega
        have hdl : (L.drop (p.1 + 1)).length = L.length - (p.1 + 1) := List.length_drop ..
        have htt := tot_take L p.1
        have htd := tot_drop L (p.1 + 1)
        refine W_call _ (by rfl) Try.call121 (by rfl) (fun w1 hw => put_c w1 A c0 L (hl.below hw.below) hc (by omega) p.1 (p.1 + 1) (by omega) (by omega) A2 N.length c2 vs' (hw.hp.cells 4 rfl) hvl2 h1r (by omega)) ?_
        rintro _ _ ⟨A5, c5, vs1, vs2, rfl, hv1, hv2, rfl⟩
        dsimp only [List.cons_append, List.nil_append]
        refine W_ent ((Ent.sel [0, 0, 1, 0, 0, 0, 0] _ (by rfl))) ?_
        refine W_ent (Ent.cons _ (Ent.rowsA_app (by rw [hv1, htl]) _)) ?_
        refine W_ent (Ent.cons _ (Ent.rowsA_app (by rw [List.length_append, List.length_append, hv1, htl, hvl2, hNl]) _)) ?_
        have hout : (L.take p.1 ++ D ++ L.drop (p.1 + 1)).length = p.1 + N.length + (L.length - (p.1 + 1)) := by rw [List.length_append, List.length_append, htl, hdl, hNl]
        have htot : tot (L.take p.1 ++ D ++ L.drop (p.1 + 1)) ≤ 4 * tot L + 131072 := by rw [tot_append, tot_append]; omega
        generalize L.take p.1 ++ D ++ L.drop (p.1 + 1) = O at *
        have hvo : (vs1 ++ vs' ++ vs2).length = O.length := by rw [hout, List.length_append, List.length_append, hv1, hv2, hvl2]
        rw [← hout]
        generalize vs1 ++ vs' ++ vs2 = vo at *
        repeat first | refine W_seq ?_ | refine W_region (by rfl) ?_ | refine W_opsnil ?_ | refine W_pure TOk (by rfl) (by first | trivial | (simp only [okI, and_true, true_and, and_self] <;> omega) | omega) ?_
        refine W_cond_d (by rfl) (fun hgt => ?_) (fun hgt => ?_)
        · rw [if_pos (show 1 < N.length by omega)]
          repeat first | refine W_seq ?_ | refine W_region (by rfl) ?_ | refine W_opsnil ?_ | refine W_pure TOk (by rfl) (by first | trivial | (simp only [okI, and_true, true_and, and_self] <;> omega) | omega) ?_ | refine W_load_boxN 4 TOk (by rfl) (by rfl) (by rfl) (by rfl) (by rfl) ?_ | (refine W_store_box 4 TOk (by rfl) (by rfl) (by rfl) (by rfl) (by rfl) (by rfl) ?_; dsimp only [setL, putL, vcells])
          refine W_callV (by rfl) Try.call123 (by rfl) (fun w1 hw => Clip_c w1 A5 c5 O (rows_of hw.hp 0 1 rfl rfl hvo) (by omega) ((p.1 : Nat) : Int) ((col : Nat) : Int)) ?_
          refine W_callV (by rfl) Try.call128 (by rfl) (fun w1 hw => ofits_c w1 A5 c5 O (rows_of hw.hp 0 1 rfl rfl hvo) (by omega) (((clipS O ((p.1 : Nat) : Int) ((col : Nat) : Int)).1 : Nat) : Int) (((clipS O ((p.1 : Nat) : Int) ((col : Nat) : Int)).2 : Nat) : Int)) ?_
          obtain ⟨MM, hent, hlinr⟩ := fit_lin (A := A5) (c := c5) (q := clipS O ((p.1 : Nat) : Int) ((col : Nat) : Int)) hvo
          unfold posN at hlinr
          unfold fitV at hlinr ⊢
          by_cases hfit : 65536 < runes O
          · rw [if_pos hfit] at hlinr ⊢
            repeat first | refine W_opsnil ?_ | refine W_pure TOk (by rfl) (by first | trivial | (simp only [okI, and_true, true_and, and_self] <;> omega) | omega) ?_ | (refine W_store_box 2 TOk (by rfl) (by rfl) (by rfl) (by rfl) (by rfl) (by rfl) ?_; dsimp only [setL, putL, vcells])
            exact W_retF (vs := [_, _, _]) ⟨rfl, rv_box 2 TOk rfl rfl rfl, rfl, trivial⟩ (M := MM) (((Ent.sel [0, 0] _ (by rfl))).trans hent) hlinr
          · rw [if_neg hfit] at hlinr ⊢
            repeat first | refine W_opsnil ?_ | refine W_pure TOk (by rfl) (by first | trivial | (simp only [okI, and_true, true_and, and_self] <;> omega) | omega) ?_ | (refine W_store_box 2 TOk (by rfl) (by rfl) (by rfl) (by rfl) (by rfl) (by rfl) ?_; dsimp only [setL, putL, vcells])
            exact W_retF (vs := [_, _, _]) ⟨rfl, rv_box 2 TOk rfl rfl rfl, rfl, trivial⟩ (M := MM) (((Ent.sel [0, 0] _ (by rfl))).trans hent) hlinr
        · rw [if_neg (show ¬ 1 < N.length by omega)]
          repeat first | refine W_seq ?_ | refine W_region (by rfl) ?_ | refine W_pure TOk (by rfl) (by first | trivial | (simp only [okI, and_true, true_and, and_self] <;> omega) | omega) ?_ | refine W_load_box 3 TOk (by rfl) (by rfl) (by rfl) (by rfl) (by rfl) ?_
          refine W_index TOk (by rfl) (by rfl) (by rfl) (by first | exact es48 | exact es22 | exact es136 | exact es150 | exact es223 | exact es29 | exact es132 | exact es207) (by omega) (by omega) (fun w1 hw => (hG.below hw.below).isSome (by omega)) ?_
          refine W_load TOk (by rfl) (by rfl) (by rfl) (fun w1 hw => cells_elem1 hvs0 hw.below) ?_
          repeat first | refine W_opsnil ?_ | refine W_pure TOk (by rfl) (by first | trivial | (simp only [okI, and_true, true_and, and_self] <;> omega) | omega) ?_
          refine W_cond_d (by rfl) (fun hgp => ?_) (fun hgp => ?_)
          · rw [if_pos (show 0 < (rowN G 0).length by omega)]
            repeat first | refine W_seq ?_ | refine W_region (by rfl) ?_ | refine W_opsnil ?_ | refine W_pure TOk (by rfl) (by first | trivial | (simp only [okI, and_true, true_and, and_self] <;> omega) | omega) ?_ | refine W_load_boxN 4 TOk (by rfl) (by rfl) (by rfl) (by rfl) (by rfl) ?_ | (refine W_store_box 4 TOk (by rfl) (by rfl) (by rfl) (by rfl) (by rfl) (by rfl) ?_; dsimp only [setL, putL, vcells])
            refine W_callV (by rfl) Try.call123 (by rfl) (fun w1 hw => Clip_c w1 A5 c5 O (rows_of hw.hp 0 1 rfl rfl hvo) (by omega) ((p.1 : Nat) : Int) (((rowN N (N.length - 1)).length : Nat) - 1)) ?_
            refine W_callV (by rfl) Try.call128 (by rfl) (fun w1 hw => ofits_c w1 A5 c5 O (rows_of hw.hp 0 1 rfl rfl hvo) (by omega) (((clipS O ((p.1 : Nat) : Int) (((rowN N (N.length - 1)).length : Nat) - 1)).1 : Nat) : Int) (((clipS O ((p.1 : Nat) : Int) (((rowN N (N.length - 1)).length : Nat) - 1)).2 : Nat) : Int)) ?_
            obtain ⟨MM, hent, hlinr⟩ := fit_lin (A := A5) (c := c5) (q := clipS O ((p.1 : Nat) : Int) (((rowN N (N.length - 1)).length : Nat) - 1)) hvo
            unfold posN at hlinr
            unfold fitV at hlinr ⊢
            by_cases hfit : 65536 < runes O
            · rw [if_pos hfit] at hlinr ⊢
              repeat first | refine W_opsnil ?_ | refine W_pure TOk (by rfl) (by first | trivial | (simp only [okI, and_true, true_and, and_self] <;> omega) | omega) ?_ | (refine W_store_box 2 TOk (by rfl) (by rfl) (by rfl) (by rfl) (by rfl) (by rfl) ?_; dsimp only [setL, putL, vcells])
              exact W_retF (vs := [_, _, _]) ⟨rfl, rv_box 2 TOk rfl rfl rfl, rfl, trivial⟩ (M := MM) (((Ent.sel [0, 0] _ (by rfl))).trans hent) hlinr
            · rw [if_neg hfit] at hlinr ⊢
              repeat first | refine W_opsnil ?_ | refine W_pure TOk (by rfl) (by first | trivial | (simp only [okI, and_true, true_and, and_self] <;> omega) | omega) ?_ | (refine W_store_box 2 TOk (by rfl) (by rfl) (by rfl) (by rfl) (by rfl) (by rfl) ?_; dsimp only [setL, putL, vcells])
              exact W_retF (vs := [_, _, _]) ⟨rfl, rv_box 2 TOk rfl rfl rfl, rfl, trivial⟩ (M := MM) (((Ent.sel [0, 0] _ (by rfl))).trans hent) hlinr
          · rw [if_neg (show ¬ 0 < (rowN G 0).length by omega)]
            repeat first | refine W_seq ?_ | refine W_skip ?_ | refine W_region (by rfl) ?_ | refine W_pure TOk (by rfl) (by first | trivial | (simp only [okI, and_true, true_and, and_self] <;> omega) | omega) ?_ | refine W_load_boxN 4 TOk (by rfl) (by rfl) (by rfl) (by rfl) (by rfl) ?_
            refine W_callV (by rfl) Try.call123 (by rfl) (fun w1 hw => Clip_c w1 A5 c5 O (rows_of hw.hp 0 1 rfl rfl hvo) (by omega) ((p.1 : Nat) : Int) ((col : Nat) : Int)) ?_
            refine W_callV (by rfl) Try.call128 (by rfl) (fun w1 hw => ofits_c w1 A5 c5 O (rows_of hw.hp 0 1 rfl rfl hvo) (by omega) (((clipS O ((p.1 : Nat) : Int) ((col : Nat) : Int)).1 : Nat) : Int) (((clipS O ((p.1 : Nat) : Int) ((col : Nat) : Int)).2 : Nat) : Int)) ?_
            obtain ⟨MM, hent, hlinr⟩ := fit_lin (A := A5) (c := c5) (q := clipS O ((p.1 : Nat) : Int) ((col : Nat) : Int)) hvo
            unfold posN at hlinr
            unfold fitV at hlinr ⊢
            by_cases hfit : 65536 < runes O
            · rw [if_pos hfit] at hlinr ⊢
              repeat first | refine W_opsnil ?_ | refine W_pure TOk (by rfl) (by first | trivial | (simp only [okI, and_true, true_and, and_self] <;> omega) | omega) ?_ | (refine W_store_box 2 TOk (by rfl) (by rfl) (by rfl) (by rfl) (by rfl) (by rfl) ?_; dsimp only [setL, putL, vcells])
              exact W_retF (vs := [_, _, _]) ⟨rfl, rv_box 2 TOk rfl rfl rfl, rfl, trivial⟩ (M := MM) (((Ent.sel [0, 0] _ (by rfl))).trans hent) hlinr
            · rw [if_neg hfit] at hlinr ⊢
              repeat first | refine W_opsnil ?_ | refine W_pure TOk (by rfl) (by first | trivial | (simp only [okI, and_true, true_and, and_self] <;> omega) | omega) ?_ | (refine W_store_box 2 TOk (by rfl) (by rfl) (by rfl) (by rfl) (by rfl) (by rfl) ?_; dsimp only [setL, putL, vcells])
              exact W_retF (vs := [_, _, _]) ⟨rfl, rv_box 2 TOk rfl rfl rfl, rfl, trivial⟩ (M := MM) (((Ent.sel [0, 0] _ (by rfl))).trans hent) hlinr
end Go.Proofs.Ytdfibmbedjpcgaa
