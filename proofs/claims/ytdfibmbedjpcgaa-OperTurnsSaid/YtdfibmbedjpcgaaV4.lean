/- Both texts opened of the same lines. -/
import Derived.Test.YtdfibmbedjpcgaaV3
import Derived.Test.YtdfibmbedjpcgaaEngC
set_option linter.unusedVariables false
set_option linter.unusedSimpArgs false
namespace Go.Proofs.Ytdfibmbedjpcgaa
open Go Go.RowKit Eng Ls
attribute [local irreducible] Eng.W

theorem Ent.gather2 (M1 M0 : List Ast) (a b : Ast) : Ent (M1 ++ (M0 ++ [a, b])) [a, b, seps (M1 ++ M0)] := by
  rw [← List.append_assoc]
  refine (Ent.seps_in (M1 ++ M0) [a, b]).trans ?_
  exact (Ent.swap _ _ _).trans (Ent.cons _ (Ent.swap _ _ _))
theorem i32s_put : ∀ (r : List Int) (k : Nat) (v : Int), putL (i32s r) k [.int .i32 v] = i32s (r.set k v)
  | [], k, v => by cases k <;> rfl
  | x :: r, 0, v => by simp [i32s, putL, putL_nil]
  | x :: r, k + 1, v => by
    have := i32s_put r k v
    simp only [i32s, List.map_cons, List.set_cons_succ, putL] at this ⊢
    rw [this]
def OpenR (xss : List (List Int)) (v : Value) (M : List Ast) : Prop :=
  (okT xss ∧ ∃ b b2, v = .tuple #[.pointer (some ⟨b, 0, none⟩), .pointer (some ⟨b2, 0, none⟩), .bool true] ∧ M = [textA b (joinL xss) (joinL xss).length, refA b2 (splitL (joinL xss))]) ∨
  (¬ okT xss ∧ v = .tuple #[.pointer none, .pointer none, .bool true] ∧ M = [])
set_option maxRecDepth 4000 in
set_option maxHeartbeats 2000000 in
theorem open_c (w : World) (A0 : Option Addr) (c0 : Nat) (xss : List (List Int)) (hl : RowsAt w A0 xss) (hb : xss.length + tot xss ≤ 1073741824) :
    Fresh Try.prog 62 [.slice A0 xss.length c0] w (OpenR xss) := by
  refine enterF Try.func62 rfl Try.ntmps62 rfl rfl ?_
  repeat first | refine W_seq ?_ | refine W_region (by rfl) ?_ | refine W_opsnil ?_ | refine W_pure TOk (by rfl) (by first | trivial | (simp only [okI, and_true, true_and, and_self] <;> omega) | omega) ?_
  refine W_call _ (by rfl) Try.call46 (by rfl) (fun w1 hw => Twin_c w1 A0 c0 xss (hl.below hw.below) (by omega)) ?_; rintro _ _ ⟨A1, c1, vs, rfl, hvs, rfl⟩; dsimp only [List.cons_append, List.nil_append]
  repeat first | refine W_seq ?_ | refine W_region (by rfl) ?_ | refine W_opsnil ?_ | refine W_pure TOk (by rfl) (by first | trivial | (simp only [okI, and_true, true_and, and_self] <;> omega) | omega) ?_
  refine W_call _ (by rfl) Try.call38 (by rfl) (fun w1 hw => New_c w1 A1 c1 xss (rows_of hw.hp 0 1 rfl rfl hvs) (by omega)) ?_
  intro v0 M0 hj0
  repeat first | refine W_pure TOk (by rfl) (by first | trivial | (simp only [okI, and_true, true_and, and_self] <;> omega) | omega) ?_
  refine W_call _ (by rfl) Try.call39 (by rfl) (fun w1 hw => RefNew_c w1 A0 c0 xss (hl.below hw.below) (by omega)) ?_
  intro v1 M1 hj1
  refine W_ent (Ent.gather2 M1 M0 _ _) ?_
  repeat first | refine W_seq ?_ | refine W_block ?_ | refine W_region (by rfl) ?_ | refine W_opsnil ?_ | refine W_pure TOk (by rfl) (by first | trivial | (simp only [okI, and_true, true_and, and_self] <;> omega) | omega) ?_
  refine W_loop (ι := Nat × List (List Int)) (fun q => [(5, .slice A1 xss.length c1), (6, v0), (7, v1), (8, .int .i64 (q.1 : Nat))]) (fun q => [own 48 1 A1 xss.length c1 vs, rowsA vs q.2, seps (M1 ++ M0)])
    (fun q => q.1 ≤ xss.length ∧ q.2.length = xss.length) (fun q => xss.length - q.1) (0, xss) ⟨by omega, rfl⟩ ⟨rfl, rfl, rfl, rfl, trivial⟩ (Ent.refl _) ?_
  rintro ⟨i, ys⟩ ⟨hi, hys⟩
  dsimp only at hi hys ⊢
  repeat first | refine W_seq ?_ | refine W_region (by rfl) ?_ | refine W_opsnil ?_ | refine W_pure TOk (by rfl) (by first | trivial | (simp only [okI, and_true, true_and, and_self] <;> omega) | omega) ?_
  refine W_cond_d (by rfl) (fun hlt => ?_) (fun hge => ?_)
  · have hiv : i < vs.length := by omega
    obtain ⟨v, hv⟩ : ∃ v, vs[i]? = some v := ⟨_, List.getElem?_eq_getElem hiv⟩
    obtain ⟨r0, hr0⟩ : ∃ r, ys[i]? = some r := ⟨_, List.getElem?_eq_getElem (by omega)⟩
    refine W_pick 1 (by rfl) ?_
    refine W_ent (rowsA_split vs ys (by omega) hv hr0 _) ?_
    refine W_rowA (fun A c hvA => ?_)
    subst hvA
    repeat first | refine W_seq ?_ | refine W_skip ?_ | refine W_block ?_ | refine W_region (by rfl) ?_ | refine W_opsnil ?_ | refine W_pure TOk (by rfl) (by first | trivial | (simp only [okI, and_true, true_and, and_self] <;> omega) | omega) ?_
    refine W_loop (ι := Nat × List Int) (fun q => [(5, .slice A1 xss.length c1), (6, v0), (7, v1), (8, .int .i64 (i : Nat)), (9, .int .i64 (q.1 : Nat))]) (fun q => [own 21 1 A r0.length c (i32s q.2), rowsA (vs.take i) (ys.take i), rowsA (vs.drop (i + 1)) (ys.drop (i + 1)), own 48 1 A1 xss.length c1 vs, seps (M1 ++ M0)])
      (fun q => q.1 ≤ r0.length ∧ q.2.length = r0.length) (fun q => r0.length - q.1) (0, r0) ⟨by omega, rfl⟩ ⟨rfl, rfl, rfl, rfl, rfl, trivial⟩ (Ent.refl _) ?_
    rintro ⟨k, r⟩ ⟨hk, hr⟩
    dsimp only at hk hr ⊢
    refine W_ownlen 0 (by rfl) (fun hq1 hq2 hq3 => ?_)
    unfold maxLen at hq3
    repeat first | refine W_seq ?_ | refine W_region (by rfl) ?_ | refine W_pure TOk (by rfl) (by first | trivial | (simp only [okI, and_true, true_and, and_self] <;> omega) | omega) ?_
    refine W_index TOk (by rfl) (by rfl) (by rfl) (by first | exact es48 | exact es22 | exact es136 | exact es150 | exact es223 | exact es29 | exact es132 | exact es207) (by omega) (by omega) (fun w1 hw => (hw.hp.cells 3 rfl).isSome (by omega)) ?_
    refine W_load TOk (by rfl) (by rfl) (by rfl) (fun w1 hw => (hw.hp.cells 3 rfl).elem1 (by rw [Int.toNat_natCast]; exact hv)) ?_
    repeat first | refine W_opsnil ?_ | refine W_pure TOk (by rfl) (by first | trivial | (simp only [okI, and_true, true_and, and_self] <;> omega) | omega) ?_
    refine W_cond_d (by rfl) (fun hlt2 => ?_) (fun hge2 => ?_)
    · repeat first | refine W_seq ?_ | refine W_skip ?_ | refine W_block ?_ | refine W_region (by rfl) ?_ | refine W_pure TOk (by rfl) (by first | trivial | (simp only [okI, and_true, true_and, and_self] <;> omega) | omega) ?_
      refine W_index TOk (by rfl) (by rfl) (by rfl) (by first | exact es48 | exact es22 | exact es136 | exact es150 | exact es223 | exact es29 | exact es132 | exact es207) (by omega) (by omega) (fun w1 hw => (hw.hp.cells 3 rfl).isSome (by omega)) ?_
      refine W_load TOk (by rfl) (by rfl) (by rfl) (fun w1 hw => (hw.hp.cells 3 rfl).elem1 (by rw [Int.toNat_natCast]; exact hv)) ?_
      repeat first | refine W_pure TOk (by rfl) (by first | trivial | (simp only [okI, and_true, true_and, and_self] <;> omega) | omega) ?_
      refine W_index TOk (by rfl) (by rfl) (by rfl) (by first | exact es48 | exact es22 | exact es136 | exact es150 | exact es223 | exact es29 | exact es132 | exact es207) (by omega) (by omega) (fun w1 hw => (hw.hp.cells 0 rfl).isSome (by rw [i32s_length]; omega)) ?_
      refine W_store_own 0 TOk (by rfl) ptr_at (by rfl) (by rfl) (by rfl) (by simp only [vcells, List.length_cons, List.length_nil]; omega) (by omega) (by rfl) ?_
      simp only [Int.toNat_natCast, Nat.mul_one, vcells, i32s_put, setL]
      repeat first | refine W_blk ?_ | refine W_region (by rfl) ?_ | refine W_opsnil ?_ | refine W_pure TOk (by rfl) (by first | trivial | (simp only [okI, and_true, true_and, and_self] <;> omega) | omega) ?_
      exact W_inv (k + 1, r.set k 7) ⟨by dsimp only; omega, by dsimp only; rw [List.length_set]; omega⟩ (by dsimp only; omega) ⟨rfl, rfl, rfl, rfl, rfl, trivial⟩ (Ent.refl _)
    · rw [← hr] at hv ⊢
      refine W_ent (Ent.rowA_in A c r _) ?_
      refine W_ent (rowsA_join vs ys (by omega) hiv _) ?_
      rw [set_same hv]
      repeat first | refine W_blk ?_ | refine W_exit (by rfl) ?_ | refine W_region (by rfl) ?_ | refine W_opsnil ?_ | refine W_pure TOk (by rfl) (by first | trivial | (simp only [okI, and_true, true_and, and_self] <;> omega) | omega) ?_
      exact W_inv (i + 1, ys.set i r) ⟨by dsimp only; omega, by dsimp only; rw [List.length_set]; omega⟩ (by dsimp only; omega) ⟨rfl, rfl, rfl, rfl, trivial⟩ (Ent.swap _ _ _)
  · refine W_ent (Ent.drop2 _ _ _) ?_
    refine W_ent (Ent.seps_out _ _) ?_
    rcases hj0 with ⟨hp, b, rfl, rfl⟩ | ⟨hp, rfl, rfl⟩
    · rcases hj1 with ⟨hp2, b2, rfl, rfl⟩ | ⟨hp2, rfl, rfl⟩
      · repeat first | refine W_seq ?_ | refine W_exit (by rfl) ?_ | refine W_region (by rfl) ?_ | refine W_opsnil ?_ | refine W_pure TOk (by rfl) (by first | trivial | (simp only [okI, and_true, true_and, and_self] <;> omega) | omega) ?_
        rw [lin_split hp.1]
        exact W_retF (vs := [_, _, _]) ⟨rfl, rfl, rfl, trivial⟩ (M := [textA b (joinL xss) (joinL xss).length, refA b2 (splitL (joinL xss))]) (Ent.swap _ _ _) (.inl ⟨hp, b, b2, rfl, rfl⟩)
      · exact absurd hp hp2
    · rcases hj1 with ⟨hp2, b2, rfl, rfl⟩ | ⟨hp2, rfl, rfl⟩
      · exact absurd hp2 hp
      · repeat first | refine W_seq ?_ | refine W_exit (by rfl) ?_ | refine W_region (by rfl) ?_ | refine W_opsnil ?_ | refine W_pure TOk (by rfl) (by first | trivial | (simp only [okI, and_true, true_and, and_self] <;> omega) | omega) ?_
        exact W_retF (vs := [_, _, _]) ⟨rfl, rfl, rfl, trivial⟩ (M := []) (Ent.nil _) (.inr ⟨hp, rfl, rfl⟩)
end Go.Proofs.Ytdfibmbedjpcgaa
