/- Contracts: what a register holds put into lines (characters and lines). -/
import Derived.Test.YtdfibmbedjpcgaaO6
import Derived.Test.YtdfibmbedjpcgaaEngE
set_option linter.unusedVariables false
set_option linter.unusedSimpArgs false
namespace Go.Proofs.Ytdfibmbedjpcgaa
open Go Go.RowKit Eng Ls
attribute [local irreducible] Eng.W

theorem tot_set {nw : List (List Int)} {i : Nat} (h : i < nw.length) (g : List Int) : tot (nw.set i (rowN nw i ++ g)) = tot nw + g.length := by
  have hg := rowN_get h
  have e1 : nw.set i (rowN nw i ++ g) = nw.take i ++ (rowN nw i ++ g) :: nw.drop (i + 1) := by rw [List.set_eq_take_append_cons_drop, if_pos h]
  have e2 : tot nw = tot (nw.take i) + (rowN nw i).length + tot (nw.drop (i + 1)) := by
    have := tot_snoc hg
    have h3 := tot_append (nw.take (i + 1)) (nw.drop (i + 1))
    rw [List.take_append_drop] at h3
    omega
  rw [e1, tot_append]
  simp only [tot, List.length_append]
  omega
/-- One more copy behind. -/
def stepP (g0 : List Int) (gs nw : List (List Int)) : List (List Int) := nw.set (nw.length - 1) (rowN nw (nw.length - 1) ++ g0) ++ gs
def stepsP (g0 : List Int) (gs : List (List Int)) (x : List Int) : Nat → List (List Int)
  | 0 => [x]
  | k + 1 => stepP g0 gs (stepsP g0 gs x k)
theorem stepsP_len (g0 : List Int) (gs : List (List Int)) (x : List Int) : ∀ k, (stepsP g0 gs x k).length = 1 + k * gs.length
  | 0 => by simp [stepsP]
  | k + 1 => by
    simp only [stepsP, stepP, List.length_append, List.length_set, stepsP_len g0 gs x k, Nat.succ_mul]
    omega
theorem stepsP_tot (g0 : List Int) (gs : List (List Int)) (x : List Int) : ∀ k, tot (stepsP g0 gs x k) = x.length + k * (g0.length + tot gs)
  | 0 => by simp [stepsP, tot]
  | k + 1 => by
    have hl := stepsP_len g0 gs x k
    have ih := stepsP_tot g0 gs x k
    simp only [stepsP, stepP]
    rw [tot_append, tot_set (by omega), ih, Nat.succ_mul]
    omega
def lastN (nw : List (List Int)) : List Int := rowN nw (nw.length - 1)
def colP (L : List (List Int)) (l k : Int) (bh : Bool) : Nat := if bh = true ∧ 0 < (rowN L (clipS L l k).1).length then (clipS L l k).2 + 1 else (clipS L l k).2
theorem colP_le (L : List (List Int)) (l k : Int) (bh : Bool) : colP L l k bh ≤ (rowN L (clipS L l k).1).length := by
  have := clipS_col L l k
  unfold colP
  split
  · rename_i h; omega
  · rename_i h
    by_cases h0 : 0 < (rowN L (clipS L l k).1).length <;> omega
/-- Characters put in. -/
def charP (L : List (List Int)) (l k : Int) (bh : Bool) (n : Nat) (g0 : List Int) (gs : List (List Int)) : List (List Int) × (Nat × Nat) :=
  let p := clipS L l k
  let x := rowN L p.1
  let col := colP L l k bh
  let nw := stepsP g0 gs (x.take col) n
  let O := L.take p.1 ++ nw.set (nw.length - 1) (lastN nw ++ x.drop col) ++ L.drop (p.1 + 1)
  (O, clipS O (p.1 : Nat) (if 1 < nw.length then ((col : Nat) : Int) else if 0 < g0.length then (((lastN nw).length : Nat) : Int) - 1 else ((p.2 : Nat) : Int)))
def lineAt (L : List (List Int)) (l k : Int) (bh : Bool) : Nat := (clipS L l k).1 + (if bh = true then 1 else 0)
/-- Lines put in. -/
def lineP (L : List (List Int)) (l k : Int) (bh : Bool) (n : Nat) (G : List (List Int)) : List (List Int) × (Nat × Nat) :=
  let i := lineAt L l k bh
  let O := L.take i ++ (List.replicate n G).flatten ++ L.drop i
  (O, (i, firstS (rowN O i)))
def fitE (O : List (List Int)) : Int := if 65536 < runes O then 3 else 0
theorem fit_lin {O : List (List Int)} {A : Option Addr} {c : Nat} {vs : List Value} {q : Nat × Nat} (hv : vs.length = O.length) :
    ∃ M, Ent [own 48 1 A O.length c vs, rowsA vs O] M ∧ LinR (fitE O) (O, q) (fitV O (.slice A O.length c) (posN q)) M := by
  by_cases h : 65536 < runes O
  · refine ⟨[], Ent.nil _, .inl ⟨?_, ?_, rfl⟩⟩
    · unfold fitE; rw [if_pos h]; decide
    · unfold fitE fitV; rw [if_pos h, if_pos h]; rfl
  · refine ⟨_, Ent.refl _, .inr ⟨?_, A, c, vs, ?_, hv, rfl⟩⟩
    · unfold fitE; rw [if_neg h]
    · unfold fitV; rw [if_neg h]
theorem rep_flat_len (n : Nat) (G : List (List Int)) : ((List.replicate n G).flatten).length = n * G.length := by
  induction n with
  | zero => simp
  | succ n ih => rw [List.replicate_succ, List.flatten_cons, List.length_append, ih, Nat.succ_mul]; omega
theorem rep_flat_tot (n : Nat) (G : List (List Int)) : tot ((List.replicate n G).flatten) = n * tot G := by
  induction n with
  | zero => simp [tot]
  | succ n ih => rw [List.replicate_succ, List.flatten_cons, tot_append, ih, Nat.succ_mul]; omega
theorem rep_flat_snoc (n : Nat) (G : List (List Int)) : (List.replicate (n + 1) G).flatten = (List.replicate n G).flatten ++ G := by
  rw [List.replicate_succ', List.flatten_append]; simp
theorem quo_ge {n c : Nat} (hc : 0 < c) (h : n * c ≤ 65536) : ¬ ((65536 : Int) / (c : Nat) < (n : Nat)) := by
  have h1 : n ≤ 65536 / c := (Nat.le_div_iff_mul_le hc).2 h
  have h2 : ((65536 : Int) / ((c : Nat) : Int)) = ((65536 / c : Nat) : Int) := by rw [Int.natCast_ediv]; rfl
  rw [h2]; omega
theorem quo_ge1 {n r : Nat} (h : n * (r + 1) ≤ 65536) : ¬ ((65536 : Int) / (((r : Nat) : Int) + 1) < (n : Nat)) ∧ 0 ≤ (65536 : Int) / (((r : Nat) : Int) + 1) ∧ (65536 : Int) / (((r : Nat) : Int) + 1) ≤ 65536 := by
  have h1 : n ≤ 65536 / (r + 1) := (Nat.le_div_iff_mul_le (by omega)).2 h
  have h2 : ((65536 : Int) / (((r : Nat) : Int) + 1)) = ((65536 / (r + 1) : Nat) : Int) := by rw [Int.natCast_ediv]; rfl
  have h3 := Nat.div_le_self 65536 (r + 1)
  rw [h2]; omega
theorem quo_ge0 {n r : Nat} (hr : 0 < r) (h : n * r ≤ 65536) : ¬ ((65536 : Int) / ((r : Nat) : Int) < (n : Nat)) ∧ 0 ≤ (65536 : Int) / ((r : Nat) : Int) ∧ (65536 : Int) / ((r : Nat) : Int) ≤ 65536 := by
  have h1 : n ≤ 65536 / r := (Nat.le_div_iff_mul_le hr).2 h
  have h2 : ((65536 : Int) / ((r : Nat) : Int)) = ((65536 / r : Nat) : Int) := by rw [Int.natCast_ediv]; rfl
  have h3 := Nat.div_le_self 65536 r
  rw [h2]; omega
theorem plain_row {G : List (List Int)} (h : plainL G = true) {k : Nat} (hk : k < G.length) : noNl (rowN G k) = true := List.all_eq_true.1 h _ (List.mem_of_getElem? (rowN_get hk))
set_option maxRecDepth 8000 in
set_option maxHeartbeats 8000000 in
theorem Paste_l (w : World) (A : Option Addr) (c0 : Nat) (L : List (List Int)) (hl : RowsAt w A L) (hc : L.length ≤ c0) (hb : L.length + tot L ≤ 268435456) (l k : Int) (AG : Option Addr) (cG : Nat) (G : List (List Int)) (hG : RowsAt w AG G) (hGc : G.length ≤ cG) (hGb : G.length + tot G ≤ 268435456) (bh : Bool) (n : Nat)
    (hG0 : 0 < G.length) (hpl : plainL G = true) (hL0 : 0 < L.length) (hn1 : 1 ≤ n) (hnb : n * (runes G + 1) ≤ 65536) :
    Fresh Try.prog 55 [.slice A L.length c0, pos l k, .agg #[.int .i64 1, .slice AG G.length cG], .bool bh, .int .i64 (n : Nat)] w (LinR (fitE (lineP L l k bh n G).1) (lineP L l k bh n G)) := by
  have hru : runes G = G.length - 1 + tot G := rfl
  have hp1 := clipS_lt (l := l) (c := k) hL0
  have hp2 := clipS_col L l k
  have hrl := rowN_len (xss := L) (i := (clipS L l k).1) hp1
  obtain ⟨hq, hq0, hq1⟩ := quo_ge1 hnb
  refine enterF Try.func55 rfl Try.ntmps55 rfl rfl ?_
  repeat first | refine W_seq ?_ | refine W_region (by rfl) ?_
  refine W_box (cs := [_, _]) (by rfl) (by rfl) (by rfl) (fun b6 => ?_)
  refine W_box (cs := [_, _]) (by rfl) (by rfl) (by rfl) (fun b7 => ?_)
  repeat first | refine W_pure TOk (by rfl) (by first | trivial | (simp only [okI, and_true, true_and, and_self] <;> omega) | omega) ?_
  refine W_alloc (cs := [_, _]) TOk (by rfl) (by rfl) (fun b11 => ?_)
  repeat first | refine W_seq ?_ | refine W_block ?_ | refine W_region (by rfl) ?_ | refine W_opsnil ?_ | refine W_pure TOk (by rfl) (by first | trivial | (simp only [okI, and_true, true_and, and_self] <;> omega) | omega) ?_ | refine W_on (by rfl) (by rfl) (by rfl) ?_ | refine W_load_box 1 TOk (by rfl) (by rfl) (by rfl) (by rfl) (by rfl) ?_
  rw [decide_eq_false (show ¬ ((G.length : Nat) : Int) = 0 by omega)]
  refine W_loop (ι := Nat × Nat) (fun q => [(0, .slice A L.length c0), (3, .bool bh), (4, .int .i64 (n : Nat)), (6, .pointer (some ⟨b6, 0, none⟩)), (7, .pointer (some ⟨b7, 0, none⟩)), (11, .pointer (some ⟨b11, 0, none⟩)), (13, .int .i64 (q.2 : Nat)), (14, .bool false), (44, .slice AG G.length cG), (45, .int .i64 (G.length : Nat)), (46, .int .i64 (q.1 : Nat))])
    (fun q => [box b11 43 [.int .i64 0, .int .i64 0], box b7 54 [.int .i64 1, .slice AG G.length cG], box b6 43 [.int .i64 l, .int .i64 k]]) (fun q => q.1 ≤ G.length ∧ q.2 ≤ 268435456) (fun q => G.length - q.1) (0, 0) ⟨by dsimp only; omega, by decide⟩ ⟨rfl, rfl, rfl, rfl, rfl, rfl, rfl, rfl, rfl, rfl, rfl, trivial⟩ (Ent.refl _) ?_
  rintro ⟨j, wd⟩ ⟨hj, hwd⟩
  dsimp only at hj hwd ⊢
  repeat first | refine W_seq ?_ | refine W_region (by rfl) ?_ | refine W_opsnil ?_ | refine W_pure TOk (by rfl) (by first | trivial | (simp only [okI, and_true, true_and, and_self] <;> omega) | omega) ?_
  refine W_cond_d (by rfl) (fun hlt => ?_) (fun hge => ?_)
  · obtain ⟨B, cB, hcB, hB_, hvs⟩ := hG.row (i := (j : Int)) (by omega) hlt
    rw [rowN_rw] at hvs hB_ hcB
    have hgl := rowN_len (xss := G) (i := j) (by omega)
    have hnn := plain_row hpl (k := j) (by omega)
    repeat first | refine W_seq ?_ | refine W_skip ?_ | refine W_block ?_ | refine W_region (by rfl) ?_
    refine W_index TOk (by rfl) (by rfl) (by rfl) (by first | exact es48 | exact es22 | exact es136 | exact es150 | exact es223 | exact es29 | exact es132 | exact es207) (by omega) (by omega) (fun w1 hw => (hG.below hw.below).isSome (by omega)) ?_
    refine W_load TOk (by rfl) (by rfl) (by rfl) (fun w1 hw => cells_elem1 hvs hw.below) ?_
    repeat first | refine W_seq ?_ | refine W_region (by rfl) ?_ | refine W_opsnil ?_ | refine W_pure TOk (by rfl) (by first | trivial | (simp only [okI, and_true, true_and, and_self] <;> omega) | omega) ?_ | refine W_on (by rfl) (by rfl) (by rfl) ?_
    refine W_callV (by rfl) Try.call125 (by rfl) (fun w1 hw => Contains10_c w1 B cB (rowN G j) (hB_.below hw.below) (by omega)) ?_
    rw [hnn]
    repeat first | refine W_blk ?_ | refine W_region (by rfl) ?_ | refine W_opsnil ?_ | refine W_pure TOk (by rfl) (by first | trivial | (simp only [okI, and_true, true_and, and_self] <;> omega) | omega) ?_
    rw [max_nat]
    exact W_inv (j + 1, max wd (rowN G j).length) ⟨by dsimp only; omega, by dsimp only; omega⟩ (by dsimp only; omega) ⟨rfl, rfl, rfl, rfl, rfl, rfl, rfl, rfl, rfl, rfl, rfl, trivial⟩ (Ent.refl _)
  · repeat first | refine W_seq ?_ | refine W_skip ?_ | refine W_exit (by rfl) ?_ | refine W_region (by rfl) ?_ | refine W_opsnil ?_ | refine W_pure TOk (by rfl) (by first | trivial | (simp only [okI, and_true, true_and, and_self] <;> omega) | omega) ?_ | refine W_cond_f (by rfl) ?_
    refine W_cond_d (by rfl) (fun h => absurd h (by omega)) (fun _ => ?_)
    repeat first | refine W_seq ?_ | refine W_skip ?_ | refine W_region (by rfl) ?_ | refine W_pure TOk (by rfl) (by first | trivial | (simp only [okI, and_true, true_and, and_self] <;> omega) | omega) ?_ | refine W_load_boxN 2 TOk (by rfl) (by rfl) (by rfl) (by rfl) (by rfl) ?_
    refine W_callV (by rfl) Try.call123 (by rfl) (fun w1 hw => Clip_c w1 A c0 L (hl.below hw.below) (by omega) l k) ?_
    repeat first | refine W_seq ?_ | refine W_region (by rfl) ?_ | refine W_opsnil ?_ | refine W_pure TOk (by rfl) (by first | trivial | (simp only [okI, and_true, true_and, and_self] <;> omega) | omega) ?_ | refine W_load_box 1 TOk (by rfl) (by rfl) (by rfl) (by rfl) (by rfl) ?_ | (refine W_store_box 2 TOk (by rfl) (by rfl) (by rfl) (by rfl) (by rfl) (by rfl) ?_; dsimp only [setL, putL, vcells])
    rw [show maxI 1 ((n : Nat) : Int) = ((n : Nat) : Int) by unfold maxI; split <;> omega]
    refine W_callV (by rfl) Try.call126 (by rfl) (fun w1 hw => size_c w1 AG cG G (hG.below hw.below) (by omega)) ?_
    repeat first | refine W_seq ?_ | refine W_block ?_ | refine W_blk ?_ | refine W_region (by rfl) ?_ | refine W_opsnil ?_ | refine W_pure TOk (by rfl) (by first | trivial | (simp only [okI, and_true, true_and, and_self] <;> omega) | omega) ?_ | refine W_cond_t (by rfl) ?_ | refine W_cond_f (by rfl) ?_ | refine W_load_box 1 TOk (by rfl) (by rfl) (by rfl) (by rfl) (by rfl) ?_
    refine W_cond_d (by rfl) (fun h => absurd h hq) (fun _ => ?_)
    obtain ⟨B, cB, hcB, hB_, hvs⟩ := hl.row (i := (((clipS L l k).1 : Nat) : Int)) (by omega) (by omega)
    rw [rowN_rw] at hvs hB_ hcB
    have hlin : ∀ i : Nat, lineAt L l k bh = i → lineP L l k bh n G = (L.take i ++ (List.replicate n G).flatten ++ L.drop i, (i, firstS (rowN (L.take i ++ (List.replicate n G).flatten ++ L.drop i) i))) := fun i h => by subst h; rfl
    have hia : lineAt L l k bh = (clipS L l k).1 + (if bh = true then 1 else 0) := rfl
    generalize hia2 : lineAt L l k bh = i at *
    rw [hlin i rfl]
    have hi : i ≤ L.length := by rw [hia]; split <;> omega
    clear hlin
    have hrl2 := rep_flat_len n G
    have hrt2 := rep_flat_tot n G
    have hb1 : n * G.length ≤ 65536 := Nat.le_trans (Nat.mul_le_mul_left n (by omega)) hnb
    have hb2 : n * tot G ≤ 65536 := Nat.le_trans (Nat.mul_le_mul_left n (by omega)) hnb
    have htl : (L.take i).length = i := by rw [List.length_take]; omega
    have hdl : (L.drop i).length = L.length - i := List.length_drop ..
    have hcut := tot_cut L (f := i) (t := i) (by omega) (by omega)
    have main : ∀ (F : Fr) (kk : List It) (M : List Ast), True := fun _ _ _ => trivial
    cases bh with
    | true =>
      have hi1 : i = (clipS L l k).1 + 1 := by rw [hia]; rfl
      repeat first | refine W_seq ?_ | refine W_skip ?_ | refine W_region (by rfl) ?_ | refine W_opsnil ?_ | refine W_pure TOk (by rfl) (by first | trivial | (simp only [okI, and_true, true_and, and_self] <;> omega) | omega) ?_ | refine W_on (by rfl) (by rfl) (by rfl) ?_ | refine W_load_box 2 TOk (by rfl) (by rfl) (by rfl) (by rfl) (by rfl) ?_
      refine W_index TOk (by rfl) (by rfl) (by rfl) (by first | exact es48 | exact es22 | exact es136 | exact es150 | exact es223 | exact es29 | exact es132 | exact es207) (by omega) (by omega) (fun w1 hw => (hl.below hw.below).isSome (by omega)) ?_
      repeat first | refine W_on (by rfl) (by rfl) (by rfl) ?_
      refine W_load TOk (by rfl) (by rfl) (by rfl) (fun w1 hw => cells_elem1 hvs hw.below) ?_
      repeat first | refine W_opsnil ?_ | refine W_pure TOk (by rfl) (by first | trivial | (simp only [okI, and_true, true_and, and_self] <;> omega) | omega) ?_ | refine W_on (by rfl) (by rfl) (by rfl) ?_
      have hci : ((((clipS L l k).1 : Nat) : Int) + 1) = ((i : Nat) : Int) := by omega
      refine W_cond_d (by rfl) (fun _ => ?_) (fun _ => ?_)
      · repeat first | refine W_seq ?_ | refine W_block ?_ | refine W_region (by rfl) ?_ | refine W_opsnil ?_ | refine W_pure TOk (by rfl) (by first | trivial | (simp only [okI, and_true, true_and, and_self] <;> omega) | omega) ?_ | refine W_cond_t (by rfl) ?_ | refine W_load_box 1 TOk (by rfl) (by rfl) (by rfl) (by rfl) (by rfl) ?_ | refine W_load_box 2 TOk (by rfl) (by rfl) (by rfl) (by rfl) (by rfl) ?_
        rw [hci]
        refine W_loop (ι := Nat × Option Addr × Nat × List Value) (fun q => [(0, .slice A L.length c0), (7, .pointer (some ⟨b7, 0, none⟩)), (11, .pointer (some ⟨b11, 0, none⟩)), (19, .int .i64 (i : Nat)), (20, .slice q.2.1 (List.replicate q.1 G).flatten.length q.2.2.1), (117, .int .i64 (n : Nat)), (118, .int .i64 (q.1 : Nat))])
          (fun q => [box b11 43 [.int .i64 0, .int .i64 0], box b7 54 [.int .i64 1, .slice AG G.length cG], own 48 1 q.2.1 (List.replicate q.1 G).flatten.length q.2.2.1 q.2.2.2, rowsA q.2.2.2 (List.replicate q.1 G).flatten]) (fun q => q.1 ≤ n ∧ q.2.2.2.length = (List.replicate q.1 G).flatten.length) (fun q => n - q.1) (0, none, 0, []) ⟨by dsimp only; omega, rfl⟩ ⟨rfl, rfl, rfl, rfl, rfl, rfl, rfl, trivial⟩ (((Ent.sel [0, 0] _ (by rfl))).trans (Ent.cons _ (Ent.cons _ ((Ent.rowsA_nil _).trans (Ent.own_zero _ _ _ _))))) ?_
        rintro ⟨j, A1, c1, vs⟩ ⟨hj, hvl⟩
        dsimp only at hj hvl ⊢
        have hjl := rep_flat_len j G
        have hjt := rep_flat_tot j G
        have hjb : j * G.length ≤ n * G.length := Nat.mul_le_mul_right _ hj
        have hjb2 : j * tot G ≤ n * tot G := Nat.mul_le_mul_right _ hj
        repeat first | refine W_seq ?_ | refine W_region (by rfl) ?_ | refine W_opsnil ?_ | refine W_pure TOk (by rfl) (by first | trivial | (simp only [okI, and_true, true_and, and_self] <;> omega) | omega) ?_
        refine W_cond_d (by rfl) (fun hlt => ?_) (fun hge => ?_)
        · have hsn := rep_flat_snoc j G
          repeat first | refine W_seq ?_ | refine W_skip ?_ | refine W_block ?_ | refine W_region (by rfl) ?_ | refine W_pure TOk (by rfl) (by first | trivial | (simp only [okI, and_true, true_and, and_self] <;> omega) | omega) ?_ | refine W_load_box 1 TOk (by rfl) (by rfl) (by rfl) (by rfl) (by rfl) ?_
          refine W_call _ (by rfl) Try.call127 (by rfl) (fun w1 hw => Lines_c w1 AG cG G (hG.below hw.below) (by omega)) ?_; rintro _ _ ⟨A3, c3, vs3, rfl, hv3, rfl⟩; dsimp only [List.cons_append, List.nil_append]
          refine W_rowsOne 1 (by rfl) hv3 (fun h1c => ?_)
          refine W_append_own 4 TOk (by rfl) (by rfl) (by rfl) sl22 (by rfl) (fun w1 hw => hw.hp.cells 0 rfl) (by rw [hv3, Nat.mul_one]) h1c (by unfold maxLen; omega) (by omega) (fun A4 c4 => ?_); dsimp only [setL]
          repeat first | refine W_blk ?_ | refine W_region (by rfl) ?_ | refine W_opsnil ?_ | refine W_pure TOk (by rfl) (by first | trivial | (simp only [okI, and_true, true_and, and_self] <;> omega) | omega) ?_
          refine W_inv (j + 1, A4, c4, vs ++ vs3) ⟨by dsimp only; omega, by dsimp only; rw [hsn, List.length_append, List.length_append, hvl, hv3]⟩ (by dsimp only; omega) ⟨rfl, rfl, rfl, rfl, ?_, rfl, rfl, trivial⟩ ?_
          · dsimp only; rw [hsn, @List.length_append _ (List.replicate j G).flatten G]; rfl
          · dsimp only
            rw [hsn]
            refine ((Ent.sel [2, 2, 2, 2, 1] _ (by rfl))).trans ?_
            refine Ent.cons _ (Ent.cons _ ?_)
            refine (Ent.own_cast (by rw [List.length_append]) rfl _).trans (Ent.cons _ ?_)
            exact Ent.rowsA_app hvl _
        · have hje : j = n := by omega
          subst hje
          generalize (List.replicate j G).flatten = D at *
          refine W_rowsOne 3 (by rfl) hvl (fun h1r => ?_)
          repeat first | refine W_seq ?_ | refine W_exit (by rfl) ?_ | refine W_region (by rfl) ?_ | refine W_pure TOk (by rfl) (by first | trivial | (simp only [okI, and_true, true_and, and_self] <;> omega) | omega) ?_
          refine W_call _ (by rfl) Try.call121 (by rfl) (fun w1 hw => put_c w1 A c0 L (hl.below hw.below) hc (by omega) i i hi hi A1 D.length c1 vs (hw.hp.cells 2 rfl) hvl h1r (by omega)) ?_
          rintro _ _ ⟨A5, c5, vs1, vs2, rfl, hv1, hv2, rfl⟩
          dsimp only [List.cons_append, List.nil_append]
          refine W_ent ((Ent.sel [0, 0, 4, 0, 0, 0] _ (by rfl))) ?_
          refine W_ent (Ent.cons _ (Ent.rowsA_app (by rw [hv1, htl]) _)) ?_
          refine W_ent (Ent.cons _ (Ent.rowsA_app (by rw [List.length_append, List.length_append, hv1, htl, hvl]) _)) ?_
          have hout : (L.take i ++ D ++ L.drop i).length = i + D.length + (L.length - i) := by rw [List.length_append, List.length_append, htl, hdl]
          have htot : tot (L.take i ++ D ++ L.drop i) ≤ 65536 + tot L := by rw [tot_append, tot_append]; omega
          have hDp : 0 < D.length := by rw [hjl]; exact Nat.mul_pos (by omega) hG0
          generalize L.take i ++ D ++ L.drop i = O at *
          have hvo : (vs1 ++ vs ++ vs2).length = O.length := by rw [hout, List.length_append, List.length_append, hv1, hv2, hvl]
          rw [← hout]
          generalize vs1 ++ vs ++ vs2 = vo at *
          repeat first | refine W_seq ?_ | refine W_region (by rfl) ?_ | refine W_opsnil ?_ | refine W_pure TOk (by rfl) (by first | trivial | (simp only [okI, and_true, true_and, and_self] <;> omega) | omega) ?_
          refine W_callV (by rfl) Try.call122 (by rfl) (fun w1 hw => first_c w1 A5 c5 O (rows_of hw.hp 0 1 rfl rfl hvo) (by omega) i (by omega)) ?_
          refine W_callV (by rfl) Try.call128 (by rfl) (fun w1 hw => ofits_c w1 A5 c5 O (rows_of hw.hp 0 1 rfl rfl hvo) (by omega) ((i : Nat) : Int) ((firstS (rowN O i) : Nat) : Int)) ?_
          obtain ⟨MM, hent, hlinr⟩ := fit_lin (A := A5) (c := c5) (q := (i, firstS (rowN O i))) hvo
          unfold posN at hlinr
          unfold fitV at hlinr ⊢
          by_cases hfit : 65536 < runes O
          · rw [if_pos hfit] at hlinr ⊢
            repeat first | refine W_opsnil ?_ | refine W_pure TOk (by rfl) (by first | trivial | (simp only [okI, and_true, true_and, and_self] <;> omega) | omega) ?_ | (refine W_store_box 2 TOk (by rfl) (by rfl) (by rfl) (by rfl) (by rfl) (by rfl) ?_; dsimp only [setL, putL, vcells])
            exact W_retF (vs := [_, _, _]) ⟨rfl, rv_box 2 TOk rfl rfl rfl, rfl, trivial⟩ (M := MM) (((Ent.sel [0, 0] _ (by rfl))).trans hent) hlinr
          · rw [if_neg hfit] at hlinr ⊢
            repeat first | refine W_opsnil ?_ | refine W_pure TOk (by rfl) (by first | trivial | (simp only [okI, and_true, true_and, and_self] <;> omega) | omega) ?_ | (refine W_store_box 2 TOk (by rfl) (by rfl) (by rfl) (by rfl) (by rfl) (by rfl) ?_; dsimp only [setL, putL, vcells])
            exact W_retF (vs := [_, _, _]) ⟨rfl, rv_box 2 TOk rfl rfl rfl, rfl, trivial⟩ (M := MM) (((Ent.sel [0, 0] _ (by rfl))).trans hent) hlinr
      · repeat first | refine W_seq ?_ | refine W_skip ?_ | refine W_block ?_ | refine W_region (by rfl) ?_ | refine W_opsnil ?_ | refine W_pure TOk (by rfl) (by first | trivial | (simp only [okI, and_true, true_and, and_self] <;> omega) | omega) ?_ | refine W_cond_t (by rfl) ?_ | refine W_load_box 1 TOk (by rfl) (by rfl) (by rfl) (by rfl) (by rfl) ?_ | refine W_load_box 2 TOk (by rfl) (by rfl) (by rfl) (by rfl) (by rfl) ?_
        rw [hci]
        refine W_loop (ι := Nat × Option Addr × Nat × List Value) (fun q => [(0, .slice A L.length c0), (7, .pointer (some ⟨b7, 0, none⟩)), (11, .pointer (some ⟨b11, 0, none⟩)), (19, .int .i64 (i : Nat)), (20, .slice q.2.1 (List.replicate q.1 G).flatten.length q.2.2.1), (117, .int .i64 (n : Nat)), (118, .int .i64 (q.1 : Nat))])
          (fun q => [box b11 43 [.int .i64 0, .int .i64 0], box b7 54 [.int .i64 1, .slice AG G.length cG], own 48 1 q.2.1 (List.replicate q.1 G).flatten.length q.2.2.1 q.2.2.2, rowsA q.2.2.2 (List.replicate q.1 G).flatten]) (fun q => q.1 ≤ n ∧ q.2.2.2.length = (List.replicate q.1 G).flatten.length) (fun q => n - q.1) (0, none, 0, []) ⟨by dsimp only; omega, rfl⟩ ⟨rfl, rfl, rfl, rfl, rfl, rfl, rfl, trivial⟩ (((Ent.sel [0, 0] _ (by rfl))).trans (Ent.cons _ (Ent.cons _ ((Ent.rowsA_nil _).trans (Ent.own_zero _ _ _ _))))) ?_
        rintro ⟨j, A1, c1, vs⟩ ⟨hj, hvl⟩
        dsimp only at hj hvl ⊢
        have hjl := rep_flat_len j G
        have hjt := rep_flat_tot j G
        have hjb : j * G.length ≤ n * G.length := Nat.mul_le_mul_right _ hj
        have hjb2 : j * tot G ≤ n * tot G := Nat.mul_le_mul_right _ hj
        repeat first | refine W_seq ?_ | refine W_region (by rfl) ?_ | refine W_opsnil ?_ | refine W_pure TOk (by rfl) (by first | trivial | (simp only [okI, and_true, true_and, and_self] <;> omega) | omega) ?_
        refine W_cond_d (by rfl) (fun hlt => ?_) (fun hge => ?_)
        · have hsn := rep_flat_snoc j G
          repeat first | refine W_seq ?_ | refine W_skip ?_ | refine W_block ?_ | refine W_region (by rfl) ?_ | refine W_pure TOk (by rfl) (by first | trivial | (simp only [okI, and_true, true_and, and_self] <;> omega) | omega) ?_ | refine W_load_box 1 TOk (by rfl) (by rfl) (by rfl) (by rfl) (by rfl) ?_
          refine W_call _ (by rfl) Try.call127 (by rfl) (fun w1 hw => Lines_c w1 AG cG G (hG.below hw.below) (by omega)) ?_; rintro _ _ ⟨A3, c3, vs3, rfl, hv3, rfl⟩; dsimp only [List.cons_append, List.nil_append]
          refine W_rowsOne 1 (by rfl) hv3 (fun h1c => ?_)
          refine W_append_own 4 TOk (by rfl) (by rfl) (by rfl) sl22 (by rfl) (fun w1 hw => hw.hp.cells 0 rfl) (by rw [hv3, Nat.mul_one]) h1c (by unfold maxLen; omega) (by omega) (fun A4 c4 => ?_); dsimp only [setL]
          repeat first | refine W_blk ?_ | refine W_region (by rfl) ?_ | refine W_opsnil ?_ | refine W_pure TOk (by rfl) (by first | trivial | (simp only [okI, and_true, true_and, and_self] <;> omega) | omega) ?_
          refine W_inv (j + 1, A4, c4, vs ++ vs3) ⟨by dsimp only; omega, by dsimp only; rw [hsn, List.length_append, List.length_append, hvl, hv3]⟩ (by dsimp only; omega) ⟨rfl, rfl, rfl, rfl, ?_, rfl, rfl, trivial⟩ ?_
          · dsimp only; rw [hsn, @List.length_append _ (List.replicate j G).flatten G]; rfl
          · dsimp only
            rw [hsn]
            refine ((Ent.sel [2, 2, 2, 2, 1] _ (by rfl))).trans ?_
            refine Ent.cons _ (Ent.cons _ ?_)
            refine (Ent.own_cast (by rw [List.length_append]) rfl _).trans (Ent.cons _ ?_)
            exact Ent.rowsA_app hvl _
        · have hje : j = n := by omega
          subst hje
          generalize (List.replicate j G).flatten = D at *
          refine W_rowsOne 3 (by rfl) hvl (fun h1r => ?_)
          repeat first | refine W_seq ?_ | refine W_exit (by rfl) ?_ | refine W_region (by rfl) ?_ | refine W_pure TOk (by rfl) (by first | trivial | (simp only [okI, and_true, true_and, and_self] <;> omega) | omega) ?_
          refine W_call _ (by rfl) Try.call121 (by rfl) (fun w1 hw => put_c w1 A c0 L (hl.below hw.below) hc (by omega) i i hi hi A1 D.length c1 vs (hw.hp.cells 2 rfl) hvl h1r (by omega)) ?_
          rintro _ _ ⟨A5, c5, vs1, vs2, rfl, hv1, hv2, rfl⟩
          dsimp only [List.cons_append, List.nil_append]
          refine W_ent ((Ent.sel [0, 0, 4, 0, 0, 0] _ (by rfl))) ?_
          refine W_ent (Ent.cons _ (Ent.rowsA_app (by rw [hv1, htl]) _)) ?_
          refine W_ent (Ent.cons _ (Ent.rowsA_app (by rw [List.length_append, List.length_append, hv1, htl, hvl]) _)) ?_
          have hout : (L.take i ++ D ++ L.drop i).length = i + D.length + (L.length - i) := by rw [List.length_append, List.length_append, htl, hdl]
          have htot : tot (L.take i ++ D ++ L.drop i) ≤ 65536 + tot L := by rw [tot_append, tot_append]; omega
          have hDp : 0 < D.length := by rw [hjl]; exact Nat.mul_pos (by omega) hG0
          generalize L.take i ++ D ++ L.drop i = O at *
          have hvo : (vs1 ++ vs ++ vs2).length = O.length := by rw [hout, List.length_append, List.length_append, hv1, hv2, hvl]
          rw [← hout]
          generalize vs1 ++ vs ++ vs2 = vo at *
          repeat first | refine W_seq ?_ | refine W_region (by rfl) ?_ | refine W_opsnil ?_ | refine W_pure TOk (by rfl) (by first | trivial | (simp only [okI, and_true, true_and, and_self] <;> omega) | omega) ?_
          refine W_callV (by rfl) Try.call122 (by rfl) (fun w1 hw => first_c w1 A5 c5 O (rows_of hw.hp 0 1 rfl rfl hvo) (by omega) i (by omega)) ?_
          refine W_callV (by rfl) Try.call128 (by rfl) (fun w1 hw => ofits_c w1 A5 c5 O (rows_of hw.hp 0 1 rfl rfl hvo) (by omega) ((i : Nat) : Int) ((firstS (rowN O i) : Nat) : Int)) ?_
          obtain ⟨MM, hent, hlinr⟩ := fit_lin (A := A5) (c := c5) (q := (i, firstS (rowN O i))) hvo
          unfold posN at hlinr
          unfold fitV at hlinr ⊢
          by_cases hfit : 65536 < runes O
          · rw [if_pos hfit] at hlinr ⊢
            repeat first | refine W_opsnil ?_ | refine W_pure TOk (by rfl) (by first | trivial | (simp only [okI, and_true, true_and, and_self] <;> omega) | omega) ?_ | (refine W_store_box 2 TOk (by rfl) (by rfl) (by rfl) (by rfl) (by rfl) (by rfl) ?_; dsimp only [setL, putL, vcells])
            exact W_retF (vs := [_, _, _]) ⟨rfl, rv_box 2 TOk rfl rfl rfl, rfl, trivial⟩ (M := MM) (((Ent.sel [0, 0] _ (by rfl))).trans hent) hlinr
          · rw [if_neg hfit] at hlinr ⊢
            repeat first | refine W_opsnil ?_ | refine W_pure TOk (by rfl) (by first | trivial | (simp only [okI, and_true, true_and, and_self] <;> omega) | omega) ?_ | (refine W_store_box 2 TOk (by rfl) (by rfl) (by rfl) (by rfl) (by rfl) (by rfl) ?_; dsimp only [setL, putL, vcells])
            exact W_retF (vs := [_, _, _]) ⟨rfl, rv_box 2 TOk rfl rfl rfl, rfl, trivial⟩ (M := MM) (((Ent.sel [0, 0] _ (by rfl))).trans hent) hlinr
    | false =>
      have hi1 : i = (clipS L l k).1 := by rw [hia]; rfl
      have hci : (((clipS L l k).1 : Nat) : Int) = ((i : Nat) : Int) := by omega
      repeat first | refine W_seq ?_ | refine W_skip ?_ | refine W_block ?_ | refine W_region (by rfl) ?_ | refine W_opsnil ?_ | refine W_pure TOk (by rfl) (by first | trivial | (simp only [okI, and_true, true_and, and_self] <;> omega) | omega) ?_ | refine W_off (by rfl) (by rfl) (by rfl) (by rfl) (by rfl) ?_ | refine W_cond_t (by rfl) ?_ | refine W_cond_f (by rfl) ?_ | refine W_load_box 1 TOk (by rfl) (by rfl) (by rfl) (by rfl) (by rfl) ?_ | refine W_load_box 2 TOk (by rfl) (by rfl) (by rfl) (by rfl) (by rfl) ?_
      rw [hci]
      refine W_loop (ι := Nat × Option Addr × Nat × List Value) (fun q => [(0, .slice A L.length c0), (7, .pointer (some ⟨b7, 0, none⟩)), (11, .pointer (some ⟨b11, 0, none⟩)), (19, .int .i64 (i : Nat)), (20, .slice q.2.1 (List.replicate q.1 G).flatten.length q.2.2.1), (117, .int .i64 (n : Nat)), (118, .int .i64 (q.1 : Nat))])
        (fun q => [box b11 43 [.int .i64 0, .int .i64 0], box b7 54 [.int .i64 1, .slice AG G.length cG], own 48 1 q.2.1 (List.replicate q.1 G).flatten.length q.2.2.1 q.2.2.2, rowsA q.2.2.2 (List.replicate q.1 G).flatten]) (fun q => q.1 ≤ n ∧ q.2.2.2.length = (List.replicate q.1 G).flatten.length) (fun q => n - q.1) (0, none, 0, []) ⟨by dsimp only; omega, rfl⟩ ⟨rfl, rfl, rfl, rfl, rfl, rfl, rfl, trivial⟩ (((Ent.sel [0, 0] _ (by rfl))).trans (Ent.cons _ (Ent.cons _ ((Ent.rowsA_nil _).trans (Ent.own_zero _ _ _ _))))) ?_
      rintro ⟨j, A1, c1, vs⟩ ⟨hj, hvl⟩
      dsimp only at hj hvl ⊢
      have hjl := rep_flat_len j G
      have hjt := rep_flat_tot j G
      have hjb : j * G.length ≤ n * G.length := Nat.mul_le_mul_right _ hj
      have hjb2 : j * tot G ≤ n * tot G := Nat.mul_le_mul_right _ hj
      repeat first | refine W_seq ?_ | refine W_region (by rfl) ?_ | refine W_opsnil ?_ | refine W_pure TOk (by rfl) (by first | trivial | (simp only [okI, and_true, true_and, and_self] <;> omega) | omega) ?_
      refine W_cond_d (by rfl) (fun hlt => ?_) (fun hge => ?_)
      · have hsn := rep_flat_snoc j G
        repeat first | refine W_seq ?_ | refine W_skip ?_ | refine W_block ?_ | refine W_region (by rfl) ?_ | refine W_pure TOk (by rfl) (by first | trivial | (simp only [okI, and_true, true_and, and_self] <;> omega) | omega) ?_ | refine W_load_box 1 TOk (by rfl) (by rfl) (by rfl) (by rfl) (by rfl) ?_
        refine W_call _ (by rfl) Try.call127 (by rfl) (fun w1 hw => Lines_c w1 AG cG G (hG.below hw.below) (by omega)) ?_; rintro _ _ ⟨A3, c3, vs3, rfl, hv3, rfl⟩; dsimp only [List.cons_append, List.nil_append]
        refine W_rowsOne 1 (by rfl) hv3 (fun h1c => ?_)
        refine W_append_own 4 TOk (by rfl) (by rfl) (by rfl) sl22 (by rfl) (fun w1 hw => hw.hp.cells 0 rfl) (by rw [hv3, Nat.mul_one]) h1c (by unfold maxLen; omega) (by omega) (fun A4 c4 => ?_); dsimp only [setL]
        repeat first | refine W_blk ?_ | refine W_region (by rfl) ?_ | refine W_opsnil ?_ | refine W_pure TOk (by rfl) (by first | trivial | (simp only [okI, and_true, true_and, and_self] <;> omega) | omega) ?_
        refine W_inv (j + 1, A4, c4, vs ++ vs3) ⟨by dsimp only; omega, by dsimp only; rw [hsn, List.length_append, List.length_append, hvl, hv3]⟩ (by dsimp only; omega) ⟨rfl, rfl, rfl, rfl, ?_, rfl, rfl, trivial⟩ ?_
        · dsimp only; rw [hsn, @List.length_append _ (List.replicate j G).flatten G]; rfl
        · dsimp only
          rw [hsn]
          refine ((Ent.sel [2, 2, 2, 2, 1] _ (by rfl))).trans ?_
          refine Ent.cons _ (Ent.cons _ ?_)
          refine (Ent.own_cast (by rw [List.length_append]) rfl _).trans (Ent.cons _ ?_)
          exact Ent.rowsA_app hvl _
      · have hje : j = n := by omega
        subst hje
        generalize (List.replicate j G).flatten = D at *
        refine W_rowsOne 3 (by rfl) hvl (fun h1r => ?_)
        repeat first | refine W_seq ?_ | refine W_exit (by rfl) ?_ | refine W_region (by rfl) ?_ | refine W_pure TOk (by rfl) (by first | trivial | (simp only [okI, and_true, true_and, and_self] <;> omega) | omega) ?_
        refine W_call _ (by rfl) Try.call121 (by rfl) (fun w1 hw => put_c w1 A c0 L (hl.below hw.below) hc (by omega) i i hi hi A1 D.length c1 vs (hw.hp.cells 2 rfl) hvl h1r (by omega)) ?_
        rintro _ _ ⟨A5, c5, vs1, vs2, rfl, hv1, hv2, rfl⟩
        dsimp only [List.cons_append, List.nil_append]
        refine W_ent ((Ent.sel [0, 0, 4, 0, 0, 0] _ (by rfl))) ?_
        refine W_ent (Ent.cons _ (Ent.rowsA_app (by rw [hv1, htl]) _)) ?_
        refine W_ent (Ent.cons _ (Ent.rowsA_app (by rw [List.length_append, List.length_append, hv1, htl, hvl]) _)) ?_
        have hout : (L.take i ++ D ++ L.drop i).length = i + D.length + (L.length - i) := by rw [List.length_append, List.length_append, htl, hdl]
        have htot : tot (L.take i ++ D ++ L.drop i) ≤ 65536 + tot L := by rw [tot_append, tot_append]; omega
        have hDp : 0 < D.length := by rw [hjl]; exact Nat.mul_pos (by omega) hG0
        generalize L.take i ++ D ++ L.drop i = O at *
        have hvo : (vs1 ++ vs ++ vs2).length = O.length := by rw [hout, List.length_append, List.length_append, hv1, hv2, hvl]
        rw [← hout]
        generalize vs1 ++ vs ++ vs2 = vo at *
        repeat first | refine W_seq ?_ | refine W_region (by rfl) ?_ | refine W_opsnil ?_ | refine W_pure TOk (by rfl) (by first | trivial | (simp only [okI, and_true, true_and, and_self] <;> omega) | omega) ?_
        refine W_callV (by rfl) Try.call122 (by rfl) (fun w1 hw => first_c w1 A5 c5 O (rows_of hw.hp 0 1 rfl rfl hvo) (by omega) i (by omega)) ?_
        refine W_callV (by rfl) Try.call128 (by rfl) (fun w1 hw => ofits_c w1 A5 c5 O (rows_of hw.hp 0 1 rfl rfl hvo) (by omega) ((i : Nat) : Int) ((firstS (rowN O i) : Nat) : Int)) ?_
        obtain ⟨MM, hent, hlinr⟩ := fit_lin (A := A5) (c := c5) (q := (i, firstS (rowN O i))) hvo
        unfold posN at hlinr
        unfold fitV at hlinr ⊢
        by_cases hfit : 65536 < runes O
        · rw [if_pos hfit] at hlinr ⊢
          repeat first | refine W_opsnil ?_ | refine W_pure TOk (by rfl) (by first | trivial | (simp only [okI, and_true, true_and, and_self] <;> omega) | omega) ?_ | (refine W_store_box 2 TOk (by rfl) (by rfl) (by rfl) (by rfl) (by rfl) (by rfl) ?_; dsimp only [setL, putL, vcells])
          exact W_retF (vs := [_, _, _]) ⟨rfl, rv_box 2 TOk rfl rfl rfl, rfl, trivial⟩ (M := MM) (((Ent.sel [0, 0] _ (by rfl))).trans hent) hlinr
        · rw [if_neg hfit] at hlinr ⊢
          repeat first | refine W_opsnil ?_ | refine W_pure TOk (by rfl) (by first | trivial | (simp only [okI, and_true, true_and, and_self] <;> omega) | omega) ?_ | (refine W_store_box 2 TOk (by rfl) (by rfl) (by rfl) (by rfl) (by rfl) (by rfl) ?_; dsimp only [setL, putL, vcells])
          exact W_retF (vs := [_, _, _]) ⟨rfl, rv_box 2 TOk rfl rfl rfl, rfl, trivial⟩ (M := MM) (((Ent.sel [0, 0] _ (by rfl))).trans hent) hlinr
end Go.Proofs.Ytdfibmbedjpcgaa
