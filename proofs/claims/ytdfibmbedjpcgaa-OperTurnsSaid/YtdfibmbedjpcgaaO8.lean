/- Contracts: lines joined. -/
import Derived.Test.YtdfibmbedjpcgaaO6
import Derived.Test.YtdfibmbedjpcgaaEngE
set_option linter.unusedVariables false
set_option linter.unusedSimpArgs false
namespace Go.Proofs.Ytdfibmbedjpcgaa
open Go Go.RowKit Eng Ls
attribute [local irreducible] Eng.W

set_option maxHeartbeats 1000000 in
theorem JoinB_c (w : World) (r : Int) : Val Try.prog 147 [.int .i32 r] w (.bool (blk r)) := by
  refine enterF Try.func147 rfl Try.ntmps147 rfl rfl ?_
  repeat first | refine W_seq ?_ | refine W_region (by rfl) ?_ | refine W_opsnil ?_ | refine W_pure TOk (by rfl) (by first | trivial | (simp only [okI, and_true, true_and, and_self] <;> omega) | omega) ?_
  refine W_callV (by rfl) Try.call144 (by rfl) (fun w1 hw => Class_c w1 r false) ?_
  repeat first | refine W_opsnil ?_ | refine W_pure TOk (by rfl) (by first | trivial | (simp only [okI, and_true, true_and, and_self] <;> omega) | omega) ?_
  exact W_retF (vs := [_]) ⟨rfl, trivial⟩ (Ent.nil _) ⟨rfl, rfl⟩
set_option maxHeartbeats 1000000 in
theorem JoinN_c (w : World) (b : Nat) (h : w.cell? ⟨b, 0, none⟩ = some (.func (.func 147) #[] #[])) (r : Int) : Val Try.prog 149 [.int .i32 r, .pointer (some ⟨b, 0, none⟩)] w (.bool (!blk r)) := by
  refine enterF Try.func149 rfl Try.ntmps149 rfl rfl ?_
  repeat first | refine W_seq ?_ | refine W_region (by rfl) ?_ | refine W_opsnil ?_ | refine W_pure TOk (by rfl) (by first | trivial | (simp only [okI, and_true, true_and, and_self] <;> omega) | omega) ?_
  refine W_load TOk (by rfl) (by rfl) (by rfl) (fun w1 hw => ⟨_, rfl, (hw.below.cell (World.block_lt_of_cell? w _ h)).trans h⟩) ?_
  repeat first | refine W_pure TOk (by rfl) (by first | trivial | (simp only [okI, and_true, true_and, and_self] <;> omega) | omega) ?_
  refine W_callFV (us := [.int .i32 r]) (by rfl) (by rfl) Try.call147 (by rfl) (by rfl) (fun w1 hw => JoinB_c w1 r) ?_
  repeat first | refine W_opsnil ?_ | refine W_pure TOk (by rfl) (by first | trivial | (simp only [okI, and_true, true_and, and_self] <;> omega) | omega) ?_
  exact W_retF (vs := [_]) ⟨rfl, trivial⟩ (Ent.nil _) ⟨rfl, rfl⟩
theorem drop_cutI (y : List Int) (t : Nat) : (y.drop t).take (y.length - t) = y.drop t := by rw [List.take_of_length_le (by simp)]
/-- A line joined to what is there. -/
def joinStep (x y : List Int) : List Int :=
  if lead y < y.length then (if rd y (lead y : Nat) = 41 ∨ x.length = 0 ∨ blk (rd x ((x.length - 1 : Nat) : Int)) = true then x else x ++ [32]) ++ y.drop (lead y) else x
def joinT (p : List Int × Nat) (y : List Int) : List Int × Nat := (joinStep p.1 y, p.1.length)
def joinAll (x : List Int) (ys : List (List Int)) : List Int × Nat := ys.foldl joinT (x, 0)
theorem joinAll_snoc {x : List Int} {ys : List (List Int)} {k : Nat} {y : List Int} (h : ys[k]? = some y) : joinAll x (ys.take (k + 1)) = joinT (joinAll x (ys.take k)) y := by
  unfold joinAll
  rw [take_snoc h, List.foldl_append]
  rfl
theorem joinStep_len (x y : List Int) : (joinStep x y).length ≤ x.length + 1 + y.length := by
  unfold joinStep
  split
  · rw [List.length_append, List.length_drop]
    split
    · omega
    · rw [List.length_append]; simp only [List.length_cons, List.length_nil]; omega
  · omega
theorem joinAll_len (x : List Int) (ys : List (List Int)) : ∀ k, k ≤ ys.length → (joinAll x (ys.take k)).1.length ≤ x.length + k + tot (ys.take k)
  | 0, _ => by simp [joinAll, tot]
  | k + 1, h => by
    have hk : ys[k]? = some (ys[k]'(by omega)) := List.getElem?_eq_getElem (by omega)
    have ih := joinAll_len x ys k (by omega)
    have h2 := joinStep_len (joinAll x (ys.take k)).1 (ys[k]'(by omega))
    rw [joinAll_snoc hk, tot_snoc hk]
    have e : (joinT (joinAll x (ys.take k)) (ys[k]'(by omega))).1 = joinStep (joinAll x (ys.take k)).1 (ys[k]'(by omega)) := rfl
    rw [e]
    omega
def joinN (n : Int) : Nat := max n.toNat 2
def joinE (L : List (List Int)) (at_ n : Int) : Int := if at_ < 0 ∨ (L.length : Int) ≤ at_ ∨ (L.length : Int) - at_ < joinN n then 2 else 0
def joinX (L : List (List Int)) (i m : Nat) : List Int × Nat := joinAll (rowN L i) ((L.drop (i + 1)).take (m - 1))
def joinL_ (L : List (List Int)) (i m : Nat) : List (List Int) := L.take i ++ [(joinX L i m).1] ++ L.drop (i + m)
def joinR (L : List (List Int)) (at_ n : Int) : List (List Int) × (Nat × Nat) := (joinL_ L at_.toNat (joinN n), clipS (joinL_ L at_.toNat (joinN n)) (at_.toNat : Nat) ((joinX L at_.toNat (joinN n)).2 : Nat))
theorem joinE_bad {L : List (List Int)} {at_ n : Int} (h : at_ < 0 ∨ (L.length : Int) ≤ at_ ∨ (L.length : Int) - at_ < joinN n) : joinE L at_ n = 2 := if_pos h
theorem joinE_ok {L : List (List Int)} {at_ n : Int} (h : ¬ (at_ < 0 ∨ (L.length : Int) ≤ at_ ∨ (L.length : Int) - at_ < joinN n)) : joinE L at_ n = 0 := if_neg h
theorem max_j1 (n : Int) : maxI n 2 = (joinN n : Nat) := by unfold maxI joinN; split <;> omega
theorem max_j2 (n : Int) : maxI 2 n = (joinN n : Nat) := by unfold maxI joinN; split <;> omega
set_option maxRecDepth 8000 in
set_option maxHeartbeats 4000000 in
theorem Join_c (w : World) (A : Option Addr) (c0 : Nat) (L : List (List Int)) (hl : RowsAt w A L) (hc : L.length ≤ c0) (hb : L.length + tot L ≤ 268435456) (at_ n : Int) :
    Fresh Try.prog 79 [.slice A L.length c0, .int .i64 at_, .int .i64 n] w (LinR (joinE L at_ n) (joinR L at_ n)) := by
  refine enterF Try.func79 rfl Try.ntmps79 rfl rfl ?_
  repeat first | refine W_seq ?_ | refine W_region (by rfl) ?_ | refine W_pure TOk (by rfl) (by first | trivial | (simp only [okI, and_true, true_and, and_self] <;> omega) | omega) ?_
  refine W_alloc (cs := [_, _]) TOk (by rfl) (by rfl) (fun b7 => ?_)
  repeat first | refine W_seq ?_ | refine W_region (by rfl) ?_ | refine W_opsnil ?_ | refine W_pure TOk (by rfl) (by first | trivial | (simp only [okI, and_true, true_and, and_self] <;> omega) | omega) ?_
  rw [max_j1]
  have hjn : 2 ≤ joinN n := by unfold joinN; omega
  have hbad : ∀ (F : Fr) (k : List It) (M : List Ast), fget F 7 = some (.pointer (some ⟨b7, 0, none⟩)) → fget F 6 = some (.slice none 0 0) → fget F 8 = some (.int .i64 2) → M[0]? = some (box b7 43 [.int .i64 0, .int .i64 0]) → joinE L at_ n = 2 →
      W (cx Try.prog Try.f79 101 w.heap.size w (FR w (LinR (joinE L at_ n) (joinR L at_ n)))) (.code .ret :: k) F M := fun F k M h7 h6 h8 hM he => by
    rw [he]
    exact W_retF (vs := [_, _, _]) ⟨h6, rv_box 0 TOk h7 hM rfl, h8, trivial⟩ (M := []) (Ent.nil _) (.inl ⟨by decide, rfl, rfl⟩)
  refine W_dec 20 (by rfl) (fun h1 => ?_) (fun h1 => ?_)
  · have h1 := of_decide_eq_true h1
    repeat first | refine W_seq ?_ | refine W_region (by rfl) ?_ | refine W_opsnil ?_ | refine W_pure TOk (by rfl) (by first | trivial | (simp only [okI, and_true, true_and, and_self] <;> omega) | omega) ?_ | refine W_off (by rfl) (by rfl) (by rfl) (by rfl) (by rfl) ?_ | refine W_cond_t (by rfl) ?_ | (refine W_store_box 0 TOk (by rfl) (by rfl) (by rfl) (by rfl) (by rfl) (by rfl) ?_; dsimp only [setL, putL, vcells])
    exact hbad _ _ _ rfl rfl rfl rfl (joinE_bad (.inl h1))
  · have h1 := of_decide_eq_false h1
    repeat first | refine W_pure TOk (by rfl) (by first | trivial | (simp only [okI, and_true, true_and, and_self] <;> omega) | omega) ?_ | refine W_on (by rfl) (by rfl) (by rfl) ?_
    refine W_dec 26 (by rfl) (fun h2 => ?_) (fun h2 => ?_)
    · have h2 := of_decide_eq_true h2
      repeat first | refine W_seq ?_ | refine W_region (by rfl) ?_ | refine W_opsnil ?_ | refine W_pure TOk (by rfl) (by first | trivial | (simp only [okI, and_true, true_and, and_self] <;> omega) | omega) ?_ | refine W_off (by rfl) (by rfl) (by rfl) (by rfl) (by rfl) ?_ | refine W_cond_t (by rfl) ?_ | (refine W_store_box 0 TOk (by rfl) (by rfl) (by rfl) (by rfl) (by rfl) (by rfl) ?_; dsimp only [setL, putL, vcells])
      exact hbad _ _ _ rfl rfl rfl rfl (joinE_bad (.inr (.inl h2)))
    · have h2 := of_decide_eq_false h2
      repeat first | refine W_opsnil ?_ | refine W_pure TOk (by rfl) (by first | trivial | (simp only [okI, and_true, true_and, and_self] <;> omega) | omega) ?_ | refine W_on (by rfl) (by rfl) (by rfl) ?_
      refine W_cond_d (by rfl) (fun h3 => ?_) (fun h3 => ?_)
      · repeat first | refine W_seq ?_ | refine W_region (by rfl) ?_ | refine W_opsnil ?_ | refine W_pure TOk (by rfl) (by first | trivial | (simp only [okI, and_true, true_and, and_self] <;> omega) | omega) ?_ | (refine W_store_box 0 TOk (by rfl) (by rfl) (by rfl) (by rfl) (by rfl) (by rfl) ?_; dsimp only [setL, putL, vcells])
        exact hbad _ _ _ rfl rfl rfl rfl (joinE_bad (.inr (.inr h3)))
      · rw [joinE_ok (by omega)]
        unfold joinR
        generalize hm : joinN n = m at *
        obtain ⟨i, rfl⟩ : ∃ i : Nat, at_ = (i : Int) := ⟨at_.toNat, by omega⟩
        rw [Int.toNat_natCast]
        obtain ⟨B, cB, hcB, hB_, hvs⟩ := hl.row (i := (i : Int)) (by omega) (by omega)
        rw [rowN_rw] at hvs hB_ hcB
        have hrl := rowN_len (xss := L) (i := i) (by omega)
        repeat first | refine W_seq ?_ | refine W_skip ?_ | refine W_region (by rfl) ?_ | refine W_pure TOk (by rfl) (by first | trivial | (simp only [okI, and_true, true_and, and_self] <;> omega) | omega) ?_
        refine W_index TOk (by rfl) (by rfl) (by rfl) (by first | exact es48 | exact es22 | exact es136 | exact es150 | exact es223 | exact es29 | exact es132 | exact es207) (by omega) (by omega) (fun w1 hw => (hl.below hw.below).isSome (by omega)) ?_
        refine W_load TOk (by rfl) (by rfl) (by rfl) (fun w1 hw => cells_elem1 hvs hw.below) ?_
        refine W_call _ (by rfl) Try.call115 (by rfl) (fun w1 hw => Clone_c w1 B cB (rowN L i) (hB_.below hw.below) (by omega)) ?_; rintro _ _ ⟨A1, c1, rfl, rfl⟩; dsimp only [List.cons_append, List.nil_append]
        repeat first | refine W_seq ?_ | refine W_region (by rfl) ?_ | refine W_opsnil ?_ | refine W_pure TOk (by rfl) (by first | trivial | (simp only [okI, and_true, true_and, and_self] <;> omega) | omega) ?_
        refine W_alloc (cs := [_]) TOk (by rfl) (by rfl) (fun b11 => ?_)
        repeat first | refine W_seq ?_ | refine W_block ?_ | refine W_region (by rfl) ?_ | refine W_opsnil ?_ | refine W_pure TOk (by rfl) (by first | trivial | (simp only [okI, and_true, true_and, and_self] <;> omega) | omega) ?_ | (refine W_store_box 0 TOk (by rfl) (by rfl) (by rfl) (by rfl) (by rfl) (by rfl) ?_; dsimp only [setL, putL, vcells])
        simp only [show Try.t48.size = 1 from rfl, Int.toNat_natCast, show ((i : Int) + 1).toNat = i + 1 by omega, show ((i : Int) + (m : Int)).toNat = i + m by omega]
        have hYl : ((L.drop (i + 1)).take (i + m - (i + 1))).length = m - 1 := by rw [List.length_take, List.length_drop]; omega
        have hYt : tot ((L.drop (i + 1)).take (i + m - (i + 1))) ≤ tot L := Nat.le_trans (tot_take _ _) (tot_drop _ _)
        have hYR : RowsAt w (cutA A (i + 1) c0 1) ((L.drop (i + 1)).take (i + m - (i + 1))) := hl.cut (i + 1) (i + m) c0 (by omega)
        have hX : joinX L i m = joinAll (rowN L i) ((L.drop (i + 1)).take (i + m - (i + 1))) := by unfold joinX; rw [show i + m - (i + 1) = m - 1 by omega]
        have hlenv : i + m - (i + 1) = ((L.drop (i + 1)).take (i + m - (i + 1))).length := by rw [hYl]; omega
        unfold joinL_
        rw [hX]
        have hYm : ((L.drop (i + 1)).take (i + m - (i + 1))).length = i + m - (i + 1) := hlenv.symm
        generalize (L.drop (i + 1)).take (i + m - (i + 1)) = Y at *
        generalize cutA A (i + 1) c0 1 = AY at *
        rw [← hYm]
        refine W_loop (ι := Nat × Option Addr × Nat) (fun q => [(0, .slice A L.length c0), (1, .int .i64 (i : Nat)), (2, .int .i64 (m : Nat)), (7, .pointer (some ⟨b7, 0, none⟩)), (9, .slice q.2.1 (joinAll (rowN L i) (Y.take q.1)).1.length q.2.2), (10, .int .i64 ((joinAll (rowN L i) (Y.take q.1)).2 : Nat)), (11, .pointer (some ⟨b11, 0, none⟩)), (46, .slice AY Y.length (c0 - (i + 1))), (47, .int .i64 (Y.length : Nat)), (48, .int .i64 (q.1 : Nat))])
          (fun q => [box b11 190 [.func (.func 147) #[] #[]], own 21 1 q.2.1 (joinAll (rowN L i) (Y.take q.1)).1.length q.2.2 (i32s (joinAll (rowN L i) (Y.take q.1)).1), box b7 43 [.int .i64 0, .int .i64 0]])
          (fun q => q.1 ≤ Y.length) (fun q => Y.length - q.1) (0, A1, c1) (by dsimp only; omega) ⟨rfl, rfl, rfl, rfl, rfl, rfl, rfl, rfl, rfl, rfl, trivial⟩ (Ent.refl _) ?_
        rintro ⟨k, A2, c2⟩ hk
        dsimp only at hk ⊢
        have hjl := joinAll_len (rowN L i) Y k hk
        have htk := tot_take Y k
        repeat first | refine W_seq ?_ | refine W_region (by rfl) ?_ | refine W_opsnil ?_ | refine W_pure TOk (by rfl) (by first | trivial | (simp only [okI, and_true, true_and, and_self] <;> omega) | omega) ?_
        refine W_cond_d (by rfl) (fun hlt => ?_) (fun hge => ?_)
        · have hgy := rowN_get (xss := Y) (i := k) (by omega)
          have hsn := joinAll_snoc (x := rowN L i) hgy
          have hjl1 := joinAll_len (rowN L i) Y (k + 1) (by omega)
          have htk1 := tot_take Y (k + 1)
          obtain ⟨B2, cB2, hcB2, hB2, hvs2⟩ := hYR.row (i := (k : Int)) (by omega) hlt
          rw [rowN_rw] at hvs2 hB2 hcB2
          have hyl := rowN_len (xss := Y) (i := k) (by omega)
          rw [hsn] at hjl1
          generalize hp : joinAll (rowN L i) (Y.take k) = p at *
          generalize hy : rowN Y k = y at *
          have hll := lead_le y
          repeat first | refine W_seq ?_ | refine W_skip ?_ | refine W_block ?_ | refine W_region (by rfl) ?_
          refine W_index TOk (by rfl) (by rfl) (by rfl) (by first | exact es48 | exact es22 | exact es136 | exact es150 | exact es223 | exact es29 | exact es132 | exact es207) (by omega) (by omega) (fun w1 hw => (hYR.below hw.below).isSome (by omega)) ?_
          refine W_load TOk (by rfl) (by rfl) (by rfl) (fun w1 hw => cells_elem1 hvs2 hw.below) ?_
          repeat first | refine W_seq ?_ | refine W_region (by rfl) ?_ | refine W_opsnil ?_ | refine W_pure TOk (by rfl) (by first | trivial | (simp only [okI, and_true, true_and, and_self] <;> omega) | omega) ?_
          refine W_callV (by rfl) Try.call148 (by rfl) (fun w1 hw => IndexFunc_c w1 149 #[.pointer (some ⟨b11, 0, none⟩)] Try.call149 (fun w2 hb2 r => JoinN_c w2 b11 ((hb2.cell (World.block_lt_of_cell? w1 _ (box_cell 0 hw.hp rfl))).trans (box_cell 0 hw.hp rfl)) r) B2 cB2 y (hB2.below hw.below) (by omega)) ?_
          by_cases hld : lead y < y.length
          · have hix : idxS y = (lead y : Nat) := by unfold idxS; rw [if_pos hld]
            have hrd := rd_get (xs := y) (i := ((lead y : Nat) : Int)) (by omega) (by omega)
            have hfin : ∀ (x' : List Int), x' = (if rd y (lead y : Nat) = 41 ∨ p.1.length = 0 ∨ blk (rd p.1 ((p.1.length - 1 : Nat) : Int)) = true then p.1 else p.1 ++ [32]) → joinT p y = (x' ++ y.drop (lead y), p.1.length) := fun x' h => by
              unfold joinT joinStep
              rw [if_pos hld, h]
            rw [hix]
            repeat first | refine W_seq ?_ | refine W_skip ?_ | refine W_region (by rfl) ?_ | refine W_opsnil ?_ | refine W_pure TOk (by rfl) (by first | trivial | (simp only [okI, and_true, true_and, and_self] <;> omega) | omega) ?_ | refine W_cond_f (by rfl) ?_
            have hA : ∀ (F : Fr) (A3 : Option Addr) (c3 : Nat) (x' : List Int), (x' = p.1 ∨ x' = p.1 ++ [32]) → joinT p y = (x' ++ y.drop (lead y), p.1.length) → True := fun _ _ _ _ _ _ => trivial
            refine W_draw (fun w1 => St _ _ w1 _) [] [(0, 0), (1, 0), (2, 0), (3, 0), (4, 0), (5, 0), (6, 0), (7, 0), (8, 0), (9, 0), (10, 0), (11, 0), (12, 0), (13, 0), (14, 0), (15, 0), (16, 1), (17, 0), (18, 0)] (by kernel_rfl) (fun _ h => h) (by rfl) (by kernel_rfl) (fun hB => ?_)
            repeat first | refine D_pure1 TOk (by kernel_rfl) hB (by rfl) (by rfl) (by rfl) (by rfl) (by first | trivial | (simp only [okI, and_true, true_and, and_self] <;> omega) | omega) (fun hB => ?_)
            refine D_index TOk (by kernel_rfl) hB (by rfl) (by rfl) (fun _ h => h) (fun _ h => h) (by rfl) (by rfl) (by rfl) (by first | exact es48 | exact es22 | exact es136 | exact es150 | exact es223 | exact es29 | exact es132 | exact es207) (by omega) (by omega) (fun w1 hw => (hB2.below hw.below).isSome (by rw [i32s_length]; omega)) (fun hB => ?_)
            refine D_load TOk (by kernel_rfl) hB (by rfl) (by rfl) (fun _ h => h) (fun _ h => h) (by rfl) (by rfl) (by rfl) (fun w1 hw => (hB2.below hw.below).elem1 (i32s_get (by omega) (by omega))) (fun hB => ?_)
            repeat first | refine D_pure1 TOk (by kernel_rfl) hB (by rfl) (by rfl) (by rfl) (by rfl) (by first | trivial | (simp only [okI, and_true, true_and, and_self] <;> omega) | omega) (fun hB => ?_)
            have hno : ∀ (h : rd y (lead y : Nat) = 41 ∨ p.1.length = 0 ∨ blk (rd p.1 ((p.1.length - 1 : Nat) : Int)) = true), joinT p y = (p.1 ++ y.drop (lead y), p.1.length) := fun h => hfin p.1 (by rw [if_pos h])
            refine W_dec 64 (by rfl) (fun h1 => ?_) (fun h1 => ?_)
            · have h1 : ¬ rd y (lead y : Nat) = 41 := by simpa using h1
              repeat first | refine D_pure1 TOk (by kernel_rfl) hB (by rfl) (by rfl) (by rfl) (by rfl) (by first | trivial | (simp only [okI, and_true, true_and, and_self] <;> omega) | omega) (fun hB => ?_)
              refine W_dec 68 (by rfl) (fun h2 => ?_) (fun h2 => ?_)
              · have h2 := of_decide_eq_true h2
                have hrx := rd_get (xs := p.1) (i := ((p.1.length - 1 : Nat) : Int)) (by omega) (by omega)
                have hcst : ((p.1.length : Nat) : Int) - 1 = ((p.1.length - 1 : Nat) : Int) := by omega
                repeat first | refine D_pure1 TOk (by kernel_rfl) hB (by rfl) (by rfl) (by rfl) (by rfl) (by first | trivial | (simp only [okI, and_true, true_and, and_self] <;> omega) | omega) (fun hB => ?_) | refine D_load_box 0 TOk (by kernel_rfl) hB (by rfl) (by rfl) (by rfl) (by rfl) (by rfl) (fun _ h => h) (by rfl) (by rfl) (fun hB => ?_)
                rw [hcst]
                refine D_index TOk (by kernel_rfl) hB (by rfl) (by rfl) (fun _ h => h) (fun _ h => h) (by rfl) (by rfl) (by rfl) (by first | exact es48 | exact es22 | exact es136 | exact es150 | exact es223 | exact es29 | exact es132 | exact es207) (by omega) (by omega) (fun w1 hw => (hw.hp.cells 1 rfl).isSome (by rw [i32s_length]; omega)) (fun hB => ?_)
                refine D_load TOk (by kernel_rfl) hB (by rfl) (by rfl) (fun _ h => h) (fun _ h => h) (by rfl) (by rfl) (by rfl) (fun w1 hw => (hw.hp.cells 1 rfl).elem1 (i32s_get (by omega) (by omega))) (fun hB => ?_)
                refine D_one hB (by rfl) (fun hB => ?_)
                repeat first | refine W_on (by rfl) (by rfl) (by rfl) ?_
                refine W_callFV (us := [.int .i32 (rd p.1 ((p.1.length - 1 : Nat) : Int))]) (by rfl) (by rfl) Try.call147 (by rfl) (by rfl) (fun w1 hw => JoinB_c w1 _) ?_
                repeat first | refine W_opsnil ?_
                repeat first | refine D_pure1 TOk (by kernel_rfl) hB (by rfl) (by rfl) (by rfl) (by rfl) (by first | trivial | (simp only [okI, and_true, true_and, and_self] <;> omega) | omega) (fun hB => ?_) | refine D_done hB ?_ | refine D_shown (fun _ h => h) ?_
                refine W_cond (by rfl) (fun h3 => ?_) (fun h3 => ?_)
                · have h3 : blk (rd p.1 ((p.1.length - 1 : Nat) : Int)) = false := by simpa using h3
                  have hJ := hfin (p.1 ++ [32]) (by rw [if_neg (fun h => h.elim h1 (fun h => h.elim (fun h => by omega) (fun h => by rw [h3] at h; cases h)))])
                  repeat first | refine W_region (by rfl) ?_ | refine W_pure TOk (by rfl) (by first | trivial | (simp only [okI, and_true, true_and, and_self] <;> omega) | omega) ?_
                  refine W_lit TOk (cs := [_]) (by rfl) (by first | exact sl48 | exact sl22 | exact sl136 | exact sl150 | exact sl223 | exact sl29 | exact sl132 | exact sl207) (by rfl) (by rfl) (by rfl) (by rfl) (fun g1 => ?_)
                  refine W_append_own 2 TOk (by rfl) (by rfl) (by rfl) (by first | exact sl48 | exact sl22 | exact sl136 | exact sl150 | exact sl223 | exact sl29 | exact sl132 | exact sl207) (by rfl) (fun w1 hw => hw.hp.cells 0 rfl) (by simp [i32s_length, i64s_length]) (by first | exact i32s_one _ | exact i64s_one _ | exact one_of _ rfl) (by unfold maxLen; omega) (by omega) (fun A5 c5 => ?_); dsimp only [setL]
                  repeat first | refine W_region (by rfl) ?_ | refine W_opsnil ?_ | refine W_pure TOk (by rfl) (by first | trivial | (simp only [okI, and_true, true_and, and_self] <;> omega) | omega) ?_
                  simp only [show Try.t21.size = 1 from rfl, Int.toNat_natCast]
                  refine W_append_own 2 TOk (by rfl) (by rfl) (by rfl) sl48 (by rfl) (news := i32s ((y.drop (lead y)).take (y.length - lead y))) (fun w1 hw => (hB2.below hw.below).cut32 (lead y) y.length cB2 (by omega)) (by rw [i32s_length, List.length_take, List.length_drop]; omega) (by first | exact i32s_one _ | exact i64s_one _ | exact one_of _ rfl) (by unfold maxLen; omega) (by omega) (fun A6 c6 => ?_); dsimp only [setL]
                  rw [drop_cutI]
                  repeat first | refine W_blk ?_ | refine W_region (by rfl) ?_ | refine W_opsnil ?_ | refine W_pure TOk (by rfl) (by first | trivial | (simp only [okI, and_true, true_and, and_self] <;> omega) | omega) ?_
                  refine W_inv (k + 1, A6, c6) (by dsimp only; omega) (by dsimp only; omega) ⟨rfl, rfl, rfl, rfl, ?_, ?_, rfl, rfl, rfl, rfl, trivial⟩ ?_
                  · dsimp only; rw [hsn, hJ, List.length_append, List.length_append, List.length_drop]; rfl
                  · dsimp only; rw [hsn, hJ]; rfl
                  · dsimp only; rw [hsn, hJ]
                    refine ((Ent.sel [1, 1, 1] _ (by rfl))).trans (Ent.cons _ ?_)
                    exact Ent.own_cast (by rw [List.length_append, List.length_append, List.length_drop]; rfl) (by simp [i32s]) _
                · have h3 : blk (rd p.1 ((p.1.length - 1 : Nat) : Int)) = true := by simpa using h3
                  have hJ := hno (.inr (.inr h3))
                  repeat first | refine W_skip ?_ | refine W_region (by rfl) ?_ | refine W_pure TOk (by rfl) (by first | trivial | (simp only [okI, and_true, true_and, and_self] <;> omega) | omega) ?_
                  simp only [show Try.t21.size = 1 from rfl, Int.toNat_natCast]
                  refine W_append_own 1 TOk (by rfl) (by rfl) (by rfl) sl48 (by rfl) (news := i32s ((y.drop (lead y)).take (y.length - lead y))) (fun w1 hw => (hB2.below hw.below).cut32 (lead y) y.length cB2 (by omega)) (by rw [i32s_length, List.length_take, List.length_drop]; omega) (by first | exact i32s_one _ | exact i64s_one _ | exact one_of _ rfl) (by unfold maxLen; omega) (by omega) (fun A6 c6 => ?_); dsimp only [setL]
                  rw [drop_cutI]
                  repeat first | refine W_blk ?_ | refine W_region (by rfl) ?_ | refine W_opsnil ?_ | refine W_pure TOk (by rfl) (by first | trivial | (simp only [okI, and_true, true_and, and_self] <;> omega) | omega) ?_
                  refine W_inv (k + 1, A6, c6) (by dsimp only; omega) (by dsimp only; omega) ⟨rfl, rfl, rfl, rfl, ?_, ?_, rfl, rfl, rfl, rfl, trivial⟩ ?_
                  · dsimp only; rw [hsn, hJ, List.length_append, List.length_drop]; rfl
                  · dsimp only; rw [hsn, hJ]; rfl
                  · dsimp only; rw [hsn, hJ]
                    refine Ent.cons _ ?_
                    exact Ent.own_cast (by rw [List.length_append, List.length_drop]) (by simp [i32s]) _
              · have h2 := of_decide_eq_false h2
                have hJ := hno (.inr (.inl (by omega)))
                repeat first | refine D_off (by kernel_rfl) hB (by rfl) (by rfl) (by rfl) (fun hB => ?_)
                refine D_one hB (by rfl) (fun hB => ?_)
                repeat first | refine W_opsnil ?_ | refine W_off (by rfl) (by rfl) (by rfl) (by rfl) (by rfl) ?_
                repeat first | refine D_pure1 TOk (by kernel_rfl) hB (by rfl) (by rfl) (by rfl) (by rfl) (by first | trivial | (simp only [okI, and_true, true_and, and_self] <;> omega) | omega) (fun hB => ?_) | refine D_off (by kernel_rfl) hB (by rfl) (by rfl) (by rfl) (fun hB => ?_) | refine D_done hB ?_ | refine D_shown (fun _ h => h) ?_
                repeat first | refine W_skip ?_ | refine W_region (by rfl) ?_ | refine W_pure TOk (by rfl) (by first | trivial | (simp only [okI, and_true, true_and, and_self] <;> omega) | omega) ?_ | refine W_cond_f (by rfl) ?_
                simp only [show Try.t21.size = 1 from rfl, Int.toNat_natCast]
                refine W_append_own 1 TOk (by rfl) (by rfl) (by rfl) sl48 (by rfl) (news := i32s ((y.drop (lead y)).take (y.length - lead y))) (fun w1 hw => (hB2.below hw.below).cut32 (lead y) y.length cB2 (by omega)) (by rw [i32s_length, List.length_take, List.length_drop]; omega) (by first | exact i32s_one _ | exact i64s_one _ | exact one_of _ rfl) (by unfold maxLen; omega) (by omega) (fun A6 c6 => ?_); dsimp only [setL]
                rw [drop_cutI]
                repeat first | refine W_blk ?_ | refine W_region (by rfl) ?_ | refine W_opsnil ?_ | refine W_pure TOk (by rfl) (by first | trivial | (simp only [okI, and_true, true_and, and_self] <;> omega) | omega) ?_
                refine W_inv (k + 1, A6, c6) (by dsimp only; omega) (by dsimp only; omega) ⟨rfl, rfl, rfl, rfl, ?_, ?_, rfl, rfl, rfl, rfl, trivial⟩ ?_
                · dsimp only; rw [hsn, hJ, List.length_append, List.length_drop]; rfl
                · dsimp only; rw [hsn, hJ]; rfl
                · dsimp only; rw [hsn, hJ]
                  refine Ent.cons _ ?_
                  exact Ent.own_cast (by rw [List.length_append, List.length_drop]) (by simp [i32s]) _
            · have h1 : rd y (lead y : Nat) = 41 := by simpa using h1
              have hJ := hno (.inl h1)
              repeat first | refine D_pure1 TOk (by kernel_rfl) hB (by rfl) (by rfl) (by rfl) (by rfl) (by first | trivial | (simp only [okI, and_true, true_and, and_self] <;> omega) | omega) (fun hB => ?_) | refine D_off (by kernel_rfl) hB (by rfl) (by rfl) (by rfl) (fun hB => ?_)
              refine D_one hB (by rfl) (fun hB => ?_)
              repeat first | refine W_opsnil ?_ | refine W_off (by rfl) (by rfl) (by rfl) (by rfl) (by rfl) ?_
              repeat first | refine D_pure1 TOk (by kernel_rfl) hB (by rfl) (by rfl) (by rfl) (by rfl) (by first | trivial | (simp only [okI, and_true, true_and, and_self] <;> omega) | omega) (fun hB => ?_) | refine D_off (by kernel_rfl) hB (by rfl) (by rfl) (by rfl) (fun hB => ?_) | refine D_done hB ?_ | refine D_shown (fun _ h => h) ?_
              repeat first | refine W_skip ?_ | refine W_region (by rfl) ?_ | refine W_pure TOk (by rfl) (by first | trivial | (simp only [okI, and_true, true_and, and_self] <;> omega) | omega) ?_ | refine W_cond_f (by rfl) ?_
              simp only [show Try.t21.size = 1 from rfl, Int.toNat_natCast]
              refine W_append_own 1 TOk (by rfl) (by rfl) (by rfl) sl48 (by rfl) (news := i32s ((y.drop (lead y)).take (y.length - lead y))) (fun w1 hw => (hB2.below hw.below).cut32 (lead y) y.length cB2 (by omega)) (by rw [i32s_length, List.length_take, List.length_drop]; omega) (by first | exact i32s_one _ | exact i64s_one _ | exact one_of _ rfl) (by unfold maxLen; omega) (by omega) (fun A6 c6 => ?_); dsimp only [setL]
              rw [drop_cutI]
              repeat first | refine W_blk ?_ | refine W_region (by rfl) ?_ | refine W_opsnil ?_ | refine W_pure TOk (by rfl) (by first | trivial | (simp only [okI, and_true, true_and, and_self] <;> omega) | omega) ?_
              refine W_inv (k + 1, A6, c6) (by dsimp only; omega) (by dsimp only; omega) ⟨rfl, rfl, rfl, rfl, ?_, ?_, rfl, rfl, rfl, rfl, trivial⟩ ?_
              · dsimp only; rw [hsn, hJ, List.length_append, List.length_drop]; rfl
              · dsimp only; rw [hsn, hJ]; rfl
              · dsimp only; rw [hsn, hJ]
                refine Ent.cons _ ?_
                exact Ent.own_cast (by rw [List.length_append, List.length_drop]) (by simp [i32s]) _
          · have hix : idxS y = -1 := by unfold idxS; rw [if_neg hld]
            have hJ : joinT p y = (p.1, p.1.length) := by unfold joinT joinStep; rw [if_neg hld]
            rw [hix]
            repeat first | refine W_seq ?_ | refine W_exit (by rfl) ?_ | refine W_region (by rfl) ?_ | refine W_opsnil ?_ | refine W_pure TOk (by rfl) (by first | trivial | (simp only [okI, and_true, true_and, and_self] <;> omega) | omega) ?_ | refine W_cond_t (by rfl) ?_
            refine W_inv (k + 1, A2, c2) (by dsimp only; omega) (by dsimp only; omega) ⟨rfl, rfl, rfl, rfl, ?_, ?_, rfl, rfl, rfl, rfl, trivial⟩ ?_
            · dsimp only; rw [hsn, hJ]; rfl
            · dsimp only; rw [hsn, hJ]; rfl
            · dsimp only; rw [hsn, hJ]; exact Ent.refl _
        · have hke : k = Y.length := by omega
          subst hke
          rw [List.take_length] at hjl ⊢
          have htl : (L.take i).length = i := by rw [List.length_take]; omega
          have hdl : (L.drop (i + m)).length = L.length - (i + m) := List.length_drop ..
          have hcut := tot_cut L (f := i) (t := i + m) (by omega) (by omega)
          generalize hp : joinAll (rowN L i) Y = p at *
          repeat first | refine W_seq ?_ | refine W_exit (by rfl) ?_ | refine W_region (by rfl) ?_ | refine W_pure TOk (by rfl) (by first | trivial | (simp only [okI, and_true, true_and, and_self] <;> omega) | omega) ?_
          refine W_lit TOk (cs := [_]) (by rfl) (by first | exact sl48 | exact sl22 | exact sl136 | exact sl150 | exact sl223 | exact sl29 | exact sl132 | exact sl207) (by rfl) (by rfl) (by rfl) (by rfl) (fun g1 => ?_)
          refine W_call _ (by rfl) Try.call121 (by rfl) (fun w1 hw => put_c w1 A c0 L (hl.below hw.below) hc (by omega) i (i + m) (by omega) (by omega) (some ⟨g1, 0, none⟩) 1 1 [.slice A2 p.1.length c2] (hw.hp.cells 0 rfl) rfl (by first | exact i32s_one _ | exact i64s_one _ | exact one_of _ rfl) (by omega)) ?_
          rintro _ _ ⟨A5, c5, vs1, vs2, rfl, hv1, hv2, rfl⟩
          dsimp only [List.cons_append, List.nil_append]
          refine W_ent ((Ent.sel [0, 0, 3, 0, 2] _ (by rfl))) ?_
          refine W_ent (Ent.cons _ (Ent.cons _ (Ent.rowA_in A2 c2 p.1 _))) ?_
          refine W_ent (Ent.cons _ (Ent.rowsA_snoc (by rw [hv1, htl]) _ _ _)) ?_
          refine W_ent (Ent.cons _ (Ent.rowsA_app (by rw [List.length_append, List.length_append, hv1, htl]; rfl) _)) ?_
          have hout : (L.take i ++ [p.1] ++ L.drop (i + m)).length = i + 1 + (L.length - (i + m)) := by rw [List.length_append, List.length_append, htl, hdl]; rfl
          have htot : tot (L.take i ++ [p.1] ++ L.drop (i + m)) ≤ 3 * tot L + L.length := by rw [tot_append, tot_append]; simp only [tot]; omega
          generalize L.take i ++ [p.1] ++ L.drop (i + m) = O at *
          have hvo : (vs1 ++ [Value.slice A2 p.1.length c2] ++ vs2).length = O.length := by rw [hout, List.length_append, List.length_append, hv1, hv2]; rfl
          rw [← hout]
          generalize vs1 ++ [Value.slice A2 p.1.length c2] ++ vs2 = vo at *
          repeat first | refine W_seq ?_ | refine W_region (by rfl) ?_ | refine W_opsnil ?_ | refine W_pure TOk (by rfl) (by first | trivial | (simp only [okI, and_true, true_and, and_self] <;> omega) | omega) ?_
          refine W_callV (by rfl) Try.call123 (by rfl) (fun w1 hw => Clip_c w1 A5 c5 O (rows_of hw.hp 0 1 rfl rfl hvo) (by omega) i p.2) ?_
          repeat first | refine W_opsnil ?_ | refine W_pure TOk (by rfl) (by first | trivial | (simp only [okI, and_true, true_and, and_self] <;> omega) | omega) ?_ | (refine W_store_box 2 TOk (by rfl) (by rfl) (by rfl) (by rfl) (by rfl) (by rfl) ?_; dsimp only [setL, putL, vcells])
          exact W_retF (vs := [_, _, _]) ⟨rfl, rv_box 2 TOk rfl rfl rfl, rfl, trivial⟩ (M := [own 48 1 A5 O.length c5 vo, rowsA vo O]) (Ent.sel [0, 0] _ (by rfl)) (.inr ⟨rfl, A5, c5, vo, rfl, hvo, rfl⟩)
end Go.Proofs.Ytdfibmbedjpcgaa
