/- Contracts: rows joined; an area of lines; what a region has. -/
import Derived.Test.YtdfibmbedjpcgaaO1
set_option linter.unusedVariables false
set_option linter.unusedSimpArgs false
namespace Go.Proofs.Ytdfibmbedjpcgaa
open Go Go.RowKit Eng Ls
attribute [local irreducible] Eng.W

/-! ### Rows joined -/
set_option maxHeartbeats 1000000 in
theorem Grow_c (w : World) (n : Nat) (hb : n ≤ 1099511627776) : Fresh Try.prog 178 [.slice none 0 0, .int .i64 (n : Nat)] w (RowR []) := by
  refine enterF Try.func178 rfl Try.ntmps178 rfl rfl ?_
  repeat first | refine W_seq ?_ | refine W_skip ?_ | refine W_region (by rfl) ?_ | refine W_opsnil ?_ | refine W_pure TOk (by rfl) (by first | trivial | (simp only [okI, and_true, true_and, and_self] <;> omega) | omega) ?_ | refine W_cond_f (by rfl) ?_
  refine W_cond_d (by rfl) (fun hpos => ?_) (fun hz => ?_)
  · repeat first | refine W_region (by rfl) ?_ | refine W_pure TOk (by rfl) (by first | trivial | (simp only [okI, and_true, true_and, and_self] <;> omega) | omega) ?_
    rw [show ((n : Int) - (((0 : Nat) : Int) - ((0 : Nat) : Int))) = (n : Int) by omega]
    refine W_append_make TOk (by rfl) (by rfl) (by rfl) sl48 (by rfl) (by omega) (by omega) (by unfold maxLen; omega) (fun A2 c2 cs => ?_)
    refine W_ownlen 0 (by rfl) (fun hq1 hq2 hq3 => ?_)
    repeat first | refine W_seq ?_ | refine W_region (by rfl) ?_ | refine W_opsnil ?_ | refine W_pure TOk (by rfl) (by first | trivial | (simp only [okI, and_true, true_and, and_self] <;> omega) | omega) ?_
    refine W_retF (vs := [_]) ⟨rfl, trivial⟩ (M := [own 21 1 A2 0 c2 (i32s [])]) ?_ ⟨A2, c2, ?_, rfl⟩
    · have := Ent.own_cut (e := 21) (size := 1) (A := A2) (n := n) (c := c2) (cs := cs) (n' := 0) (c' := c2) (by omega) (by omega) (by omega) []
      simpa [i32s] using this
    · show Value.slice _ _ _ = _
      simp only [Int.toNat_zero, cutA_zero, Int.toNat_natCast, Nat.sub_self, Nat.sub_zero, List.length_nil]
  · repeat first | refine W_seq ?_ | refine W_skip ?_ | refine W_region (by rfl) ?_ | refine W_opsnil ?_ | refine W_pure TOk (by rfl) (by first | trivial | (simp only [okI, and_true, true_and, and_self] <;> omega) | omega) ?_
    exact W_retF (vs := [_]) ⟨rfl, trivial⟩ (Ent.own_zero 21 1 none []) ⟨none, 0, rfl, rfl⟩
theorem flat_snoc {L : List (List Int)} {k : Nat} {x : List Int} (h : L[k]? = some x) : (L.take (k + 1)).flatten = (L.take k).flatten ++ x := by
  rw [take_snoc h]; simp
theorem flat_len (L : List (List Int)) : L.flatten.length = tot L := by
  induction L with
  | nil => rfl
  | cons x r ih => simp [tot, ih]
set_option maxHeartbeats 1000000 in
theorem Concat_c (w : World) (A : Option Addr) (c : Nat) (L : List (List Int)) (hl : RowsAt w A L) (hb : L.length + tot L ≤ 1099511627776) : Fresh Try.prog 120 [.slice A L.length c] w (RowR L.flatten) := by
  refine enterF Try.func120 rfl Try.ntmps120 rfl rfl ?_
  repeat first | refine W_seq ?_ | refine W_block ?_ | refine W_region (by rfl) ?_ | refine W_opsnil ?_ | refine W_pure TOk (by rfl) (by first | trivial | (simp only [okI, and_true, true_and, and_self] <;> omega) | omega) ?_
  refine W_loop (ι := Nat) (fun k => [(0, .slice A L.length c), (3, .int .i64 (tot (L.take k) : Nat)), (9, .slice A L.length c), (10, .int .i64 (L.length : Nat)), (11, .int .i64 (k : Nat))]) (fun _ => []) (fun k => k ≤ L.length) (fun k => L.length - k) 0
    (by omega) ⟨rfl, rfl, rfl, rfl, rfl, trivial⟩ (Ent.refl _) ?_
  intro k hk
  have htk := tot_take L k
  repeat first | refine W_seq ?_ | refine W_region (by rfl) ?_ | refine W_opsnil ?_ | refine W_pure TOk (by rfl) (by first | trivial | (simp only [okI, and_true, true_and, and_self] <;> omega) | omega) ?_
  refine W_cond_d (by rfl) (fun hlt => ?_) (fun hge => ?_)
  · obtain ⟨B, cB, hcB, hB_, hvs⟩ := hl.row (i := (k : Int)) (by omega) hlt
    have hrl := row_len_le L (i := (k : Int)) (by omega) hlt
    have hg := rw_get (xss := L) (i := (k : Int)) (by omega) hlt
    rw [show ((k : Int)).toNat = k by omega] at hg
    have hts := tot_snoc hg
    have htk1 := tot_take L (k + 1)
    repeat first | refine W_seq ?_ | refine W_skip ?_ | refine W_block ?_ | refine W_region (by rfl) ?_
    refine W_index TOk (by rfl) (by rfl) (by rfl) (by first | exact es48 | exact es22 | exact es136 | exact es150 | exact es223 | exact es29 | exact es132 | exact es207) (by omega) (by omega) (fun w1 hw => (hl.below hw.below).isSome (by omega)) ?_
    refine W_load TOk (by rfl) (by rfl) (by rfl) (fun w1 hw => cells_elem1 hvs hw.below) ?_
    repeat first | refine W_seq ?_ | refine W_skip ?_ | refine W_blk ?_ | refine W_region (by rfl) ?_ | refine W_opsnil ?_ | refine W_pure TOk (by rfl) (by first | trivial | (simp only [okI, and_true, true_and, and_self] <;> omega) | omega) ?_ | refine W_cond_f (by rfl) ?_
    refine W_inv (k + 1) (by omega) (by omega) ⟨rfl, ?_, rfl, rfl, rfl, trivial⟩ (Ent.refl _)
    rw [hts]
    show some (Value.int _ _) = some (Value.int _ _)
    congr 2
  · have e : k = L.length := by omega
    subst e
    rw [List.take_length]
    repeat first | refine W_seq ?_ | refine W_exit (by rfl) ?_ | refine W_region (by rfl) ?_ | refine W_pure TOk (by rfl) (by first | trivial | (simp only [okI, and_true, true_and, and_self] <;> omega) | omega) ?_
    refine W_call _ (by rfl) Try.call178 (by rfl) (fun w1 hw => Grow_c w1 (tot L) (by omega)) ?_; rintro _ _ ⟨A1, c1, rfl, rfl⟩; dsimp only [List.cons_append, List.nil_append]
    repeat first | refine W_seq ?_ | refine W_block ?_ | refine W_region (by rfl) ?_ | refine W_opsnil ?_ | refine W_pure TOk (by rfl) (by first | trivial | (simp only [okI, and_true, true_and, and_self] <;> omega) | omega) ?_
    refine W_loop (ι := Nat × Option Addr × Nat) (fun q => [(0, .slice A L.length c), (6, .slice q.2.1 (L.take q.1).flatten.length q.2.2), (25, .slice A L.length c), (26, .int .i64 (L.length : Nat)), (27, .int .i64 (q.1 : Nat))]) (fun q => [own 21 1 q.2.1 (L.take q.1).flatten.length q.2.2 (i32s (L.take q.1).flatten)]) (fun q => q.1 ≤ L.length) (fun q => L.length - q.1) (0, A1, c1)
      (by dsimp only; omega) ⟨rfl, rfl, rfl, rfl, rfl, trivial⟩ (Ent.refl _) ?_
    rintro ⟨k, A2, c2⟩ hk
    dsimp only at hk ⊢
    have htk := tot_take L k
    have hfl := flat_len (L.take k)
    repeat first | refine W_seq ?_ | refine W_region (by rfl) ?_ | refine W_opsnil ?_ | refine W_pure TOk (by rfl) (by first | trivial | (simp only [okI, and_true, true_and, and_self] <;> omega) | omega) ?_
    refine W_cond_d (by rfl) (fun hlt => ?_) (fun hge => ?_)
    · obtain ⟨B, cB, hcB, hB_, hvs⟩ := hl.row (i := (k : Int)) (by omega) hlt
      have hrl := row_len_le L (i := (k : Int)) (by omega) hlt
      have hg := rw_get (xss := L) (i := (k : Int)) (by omega) hlt
      rw [show ((k : Int)).toNat = k by omega] at hg
      repeat first | refine W_seq ?_ | refine W_skip ?_ | refine W_block ?_ | refine W_region (by rfl) ?_
      refine W_index TOk (by rfl) (by rfl) (by rfl) (by first | exact es48 | exact es22 | exact es136 | exact es150 | exact es223 | exact es29 | exact es132 | exact es207) (by omega) (by omega) (fun w1 hw => (hl.below hw.below).isSome (by omega)) ?_
      refine W_load TOk (by rfl) (by rfl) (by rfl) (fun w1 hw => cells_elem1 hvs hw.below) ?_
      repeat first | refine W_region (by rfl) ?_ | refine W_opsnil ?_ | refine W_pure TOk (by rfl) (by first | trivial | (simp only [okI, and_true, true_and, and_self] <;> omega) | omega) ?_
      refine W_append_own 0 TOk (by rfl) (by rfl) (by rfl) (by first | exact sl48 | exact sl22 | exact sl136 | exact sl150 | exact sl223 | exact sl29 | exact sl132 | exact sl207) (by rfl) (fun w1 hw => hB_.below hw.below) (by simp [i32s_length, i64s_length]) (by first | exact i32s_one _ | exact i64s_one _ | exact one_of _ rfl) (by unfold maxLen; omega) (by omega) (fun A4 c4 => ?_); dsimp only [setL]
      repeat first | refine W_blk ?_ | refine W_region (by rfl) ?_ | refine W_opsnil ?_ | refine W_pure TOk (by rfl) (by first | trivial | (simp only [okI, and_true, true_and, and_self] <;> omega) | omega) ?_
      refine W_inv (k + 1, A4, c4) (by dsimp only; omega) (by dsimp only; omega) ⟨rfl, ?_, rfl, rfl, rfl, trivial⟩ ?_
      · dsimp only
        rw [flat_snoc hg, List.length_append]; rfl
      · dsimp only
        rw [flat_snoc hg]
        exact Ent.own_cast (by rw [List.length_append]) (by simp [i32s]) _
    · have e : k = L.length := by omega
      subst e
      rw [List.take_length]
      repeat first | refine W_seq ?_ | refine W_exit (by rfl) ?_ | refine W_region (by rfl) ?_ | refine W_opsnil ?_ | refine W_pure TOk (by rfl) (by first | trivial | (simp only [okI, and_true, true_and, and_self] <;> omega) | omega) ?_
      exact W_retF (vs := [_]) ⟨rfl, trivial⟩ (Ent.refl _) ⟨A2, c2, rfl, rfl⟩
/-! ### An area -/
def areaV (kd : Int) (a b : Nat × Nat) : Value := .agg #[.int .i64 kd, .int .i64 (a.1 : Nat), .int .i64 (a.2 : Nat), .int .i64 (b.1 : Nat), .int .i64 (b.2 : Nat)]
theorem min_nat (a b : Nat) : minI (a : Int) (b : Int) = ((min a b : Nat) : Int) := by unfold minI; split <;> omega
theorem max_nat (a b : Nat) : maxI (a : Int) (b : Int) = ((max a b : Nat) : Int) := by unfold maxI; split <;> omega
set_option maxRecDepth 4000 in
set_option maxHeartbeats 2000000 in
theorem columns_c (w : World) (A : Option Addr) (c0 : Nat) (L : List (List Int)) (hl : RowsAt w A L) (hb : L.length + tot L ≤ 1099511627776) (kd : Int) (a b : Nat × Nat) (i : Nat) (hok : RegOk L kd a b) (h1 : a.1 ≤ i) (h2 : i ≤ b.1) :
    Val Try.prog 177 [areaV kd a b, .slice A L.length c0, .int .i64 (i : Nat)] w (.tuple #[.int .i64 (colF kd a b (rowN L i).length i : Nat), .int .i64 (colT kd a b (rowN L i).length i : Nat)]) := by
  have hlt := hok.lt
  have hkd := hok.kd
  have hca := hok.ca
  have hcb := hok.cb
  have hla := rowN_len (xss := L) (i := a.1) (by have := hok.le; omega)
  have hlb := rowN_len (xss := L) (i := b.1) (by omega)
  obtain ⟨B, cB, hcB, hB_, hvs⟩ := hl.row (i := (i : Int)) (by omega) (by omega)
  rw [rowN_rw] at hvs
  have hrl := rowN_len (xss := L) (i := i) (by omega)
  generalize hr : (rowN L i).length = n at *
  refine enterF Try.func177 rfl Try.ntmps177 rfl rfl ?_
  repeat first | refine W_seq ?_ | refine W_region (by rfl) ?_
  refine W_box (cs := [_, _, _, _, _]) (by rfl) (by rfl) (by rfl) (fun b3 => ?_)
  repeat first | refine W_seq ?_ | refine W_region (by rfl) ?_ | refine W_opsnil ?_ | refine W_pure TOk (by rfl) (by first | trivial | (simp only [okI, and_true, true_and, and_self] <;> omega) | omega) ?_
  refine W_index TOk (by rfl) (by rfl) (by rfl) (by first | exact es48 | exact es22 | exact es136 | exact es150 | exact es223 | exact es29 | exact es132 | exact es207) (by omega) (by omega) (fun w1 hw => (hl.below hw.below).isSome (by omega)) ?_
  refine W_load TOk (by rfl) (by rfl) (by rfl) (fun w1 hw => cells_elem1 hvs hw.below) ?_
  repeat first | refine W_seq ?_ | refine W_region (by rfl) ?_ | refine W_opsnil ?_ | refine W_pure TOk (by rfl) (by first | trivial | (simp only [okI, and_true, true_and, and_self] <;> omega) | omega) ?_ | refine W_load_box 0 TOk (by rfl) (by rfl) (by rfl) (by rfl) (by rfl) ?_
  have fin : ∀ (F : Fr) (k : List It) (M : List Ast) (x y : Int), x = (colF kd a b n i : Nat) → y = (colT kd a b n i : Nat) → fget F 6 = some (.int .i64 x) → fget F 7 = some (.int .i64 y) →
      W (cx Try.prog Try.f177 69 w.heap.size w (FR w fun u M => u = .tuple #[.int .i64 (colF kd a b n i : Nat), .int .i64 (colT kd a b n i : Nat)] ∧ M = [])) (.code .ret :: k) F M := fun F k M x y hx hy h6 h7 => by
    subst hx; subst hy
    exact W_retF (vs := [_, _]) ⟨h6, h7, trivial⟩ (Ent.nil _) ⟨rfl, rfl⟩
  rcases (show kd = 0 ∨ kd = 1 ∨ kd = 2 by omega) with rfl | rfl | rfl
  · repeat first | refine W_seq ?_ | refine W_skip ?_ | refine W_region (by rfl) ?_ | refine W_opsnil ?_ | refine W_pure TOk (by rfl) (by first | trivial | (simp only [okI, and_true, true_and, and_self] <;> omega) | omega) ?_ | refine W_on (by rfl) (by rfl) (by rfl) ?_ | refine W_cond_f (by rfl) ?_ | refine W_load_box 0 TOk (by rfl) (by rfl) (by rfl) (by rfl) (by rfl) ?_
    refine W_cond_d (by rfl) (fun e1 => ?_) (fun e1 => ?_)
    · repeat first | refine W_seq ?_ | refine W_region (by rfl) ?_ | refine W_opsnil ?_ | refine W_pure TOk (by rfl) (by first | trivial | (simp only [okI, and_true, true_and, and_self] <;> omega) | omega) ?_ | refine W_on (by rfl) (by rfl) (by rfl) ?_ | refine W_load_box 0 TOk (by rfl) (by rfl) (by rfl) (by rfl) (by rfl) ?_
      refine W_cond_d (by rfl) (fun e2 => ?_) (fun e2 => ?_)
      · repeat first | refine W_seq ?_ | refine W_region (by rfl) ?_ | refine W_opsnil ?_ | refine W_pure TOk (by rfl) (by first | trivial | (simp only [okI, and_true, true_and, and_self] <;> omega) | omega) ?_ | refine W_load_box 0 TOk (by rfl) (by rfl) (by rfl) (by rfl) (by rfl) ?_
        refine fin _ _ _ _ _ ?_ ?_ rfl rfl
        · unfold colF colT minI
          simp only [show ¬ ((0 : Int) = 2) by decide, if_false, true_and]
          rw [if_pos (show i = b.1 by omega), if_pos (show i = a.1 by omega)]
          split <;> (try split) <;> omega
        · unfold colT minI
          simp only [show ¬ ((0 : Int) = 2) by decide, if_false, true_and]
          rw [if_pos (show i = b.1 by omega)]
          split <;> omega
      · repeat first | refine W_seq ?_ | refine W_skip ?_ | refine W_region (by rfl) ?_ | refine W_opsnil ?_ | refine W_pure TOk (by rfl) (by first | trivial | (simp only [okI, and_true, true_and, and_self] <;> omega) | omega) ?_
        refine fin _ _ _ _ _ ?_ ?_ rfl rfl
        · unfold colF colT minI
          simp only [show ¬ ((0 : Int) = 2) by decide, if_false, true_and]
          rw [if_neg (show ¬ i = b.1 by omega), if_pos (show i = a.1 by omega)]
          split <;> (try split) <;> omega
        · unfold colT minI
          simp only [show ¬ ((0 : Int) = 2) by decide, if_false, true_and]
          rw [if_neg (show ¬ i = b.1 by omega)]
          split <;> omega
    · repeat first | refine W_seq ?_ | refine W_skip ?_ | refine W_region (by rfl) ?_ | refine W_opsnil ?_ | refine W_pure TOk (by rfl) (by first | trivial | (simp only [okI, and_true, true_and, and_self] <;> omega) | omega) ?_ | refine W_on (by rfl) (by rfl) (by rfl) ?_ | refine W_load_box 0 TOk (by rfl) (by rfl) (by rfl) (by rfl) (by rfl) ?_
      refine W_cond_d (by rfl) (fun e2 => ?_) (fun e2 => ?_)
      · repeat first | refine W_seq ?_ | refine W_region (by rfl) ?_ | refine W_opsnil ?_ | refine W_pure TOk (by rfl) (by first | trivial | (simp only [okI, and_true, true_and, and_self] <;> omega) | omega) ?_ | refine W_load_box 0 TOk (by rfl) (by rfl) (by rfl) (by rfl) (by rfl) ?_
        refine fin _ _ _ _ _ ?_ ?_ rfl rfl
        · unfold colF colT minI
          simp only [show ¬ ((0 : Int) = 2) by decide, if_false, true_and]
          rw [if_pos (show i = b.1 by omega), if_neg (show ¬ i = a.1 by omega)]
          split <;> (try split) <;> omega
        · unfold colT minI
          simp only [show ¬ ((0 : Int) = 2) by decide, if_false, true_and]
          rw [if_pos (show i = b.1 by omega)]
          split <;> omega
      · repeat first | refine W_seq ?_ | refine W_skip ?_ | refine W_region (by rfl) ?_ | refine W_opsnil ?_ | refine W_pure TOk (by rfl) (by first | trivial | (simp only [okI, and_true, true_and, and_self] <;> omega) | omega) ?_
        refine fin _ _ _ _ _ ?_ ?_ rfl rfl
        · unfold colF colT minI
          simp only [show ¬ ((0 : Int) = 2) by decide, if_false, true_and]
          rw [if_neg (show ¬ i = b.1 by omega), if_neg (show ¬ i = a.1 by omega)]
          split <;> (try split) <;> omega
        · unfold colT minI
          simp only [show ¬ ((0 : Int) = 2) by decide, if_false, true_and]
          rw [if_neg (show ¬ i = b.1 by omega)]
          split <;> omega
  · repeat first | refine W_seq ?_ | refine W_skip ?_ | refine W_region (by rfl) ?_ | refine W_opsnil ?_ | refine W_pure TOk (by rfl) (by first | trivial | (simp only [okI, and_true, true_and, and_self] <;> omega) | omega) ?_ | refine W_off (by rfl) (by rfl) (by rfl) (by rfl) (by rfl) ?_ | refine W_cond_f (by rfl) ?_ | refine W_load_box 0 TOk (by rfl) (by rfl) (by rfl) (by rfl) (by rfl) ?_
    refine fin _ _ _ _ _ ?_ ?_ rfl rfl <;>
    ((try unfold colF)
     unfold colT minI
     simp only [show ¬ ((1 : Int) = 2) by decide, show ¬ ((1 : Int) = 0) by decide, if_false, false_and]
     split <;> (try split) <;> omega)
  · have hmx := max_nat a.2 b.2
    have hmn := min_nat a.2 b.2
    repeat first | refine W_cond_t (by rfl) ?_
    refine W_draw (fun w1 => St _ _ w1 _) [] [(0, 0), (1, 0), (2, 0), (3, 0), (4, 0), (5, 0), (6, 0), (7, 0), (8, 0), (9, 0), (10, 0), (11, 0), (12, 0), (13, 0), (14, 0), (15, 0), (16, 0)] (by kernel_rfl) (fun _ h => h) (by rfl) (by kernel_rfl) (fun hB => ?_)
    repeat first | refine D_pure TOk (by kernel_rfl) hB (by rfl) (by rfl) (by first | trivial | (simp only [okI, and_true, true_and, and_self] <;> omega) | omega) (fun hB => ?_) | refine D_done hB ?_ | refine D_load_box 0 TOk (by kernel_rfl) hB (by rfl) (by rfl) (by rfl) (by rfl) (by rfl) (fun _ h => h) (by rfl) (by rfl) (fun hB => ?_)
    repeat first | refine W_seq ?_ | refine W_skip ?_ | refine W_region (by rfl) ?_ | refine W_opsnil ?_ | refine W_pure TOk (by rfl) (by first | trivial | (simp only [okI, and_true, true_and, and_self] <;> omega) | omega) ?_ | refine W_off (by rfl) (by rfl) (by rfl) (by rfl) (by rfl) ?_ | refine W_cond_f (by rfl) ?_ | refine W_load_box 0 TOk (by rfl) (by rfl) (by rfl) (by rfl) (by rfl) ?_
    rw [hmx, hmn]
    refine fin _ _ _ _ _ ?_ ?_ rfl rfl <;>
    ((try unfold colF)
     unfold colT minI
     simp only [if_true]
     split <;> (try split) <;> omega)
end Go.Proofs.Ytdfibmbedjpcgaa
