/- The text and its table in memory; the functions that read them. -/
import Derived.Test.YtdfibmbedjpcgaaR7
import Derived.Test.YtdfibmbedjpcgaaLt
set_option linter.unusedVariables false
set_option linter.unusedSimpArgs false
namespace Go.Proofs.Ytdfibmbedjpcgaa
open Go Go.RowKit Eng Ls
attribute [local irreducible] Eng.W

def BoxAt (w : World) (b : Nat) (cs : List Value) : Prop := ∀ j v, cs[j]? = some v → w.cell? ⟨b, j, none⟩ = some v
theorem BoxAt.below {w w' : World} {b : Nat} {cs : List Value} (h : BoxAt w b cs) (hb : Below w.heap.size w w') : BoxAt w' b cs := fun j v hj => by
  have := h j v hj
  exact (hb.cell (World.block_lt_of_cell? w _ this)).trans this
theorem BoxAt.of {w : World} {b : Nat} {t : TypeId} {cs : List Value} {S : Nat → Prop} (h : (box b t cs).A w S) : BoxAt w b cs := fun j v hj => by
  rw [cell_of_row w b j _ t (0, 0) (box_A.1 h).1]
  simpa using hj
theorem own_at {e : TypeId} {size : Nat} {A : Option Addr} {n c : Nat} {cs : List Value} {w : World} {S : Nat → Prop} (h : (own e size A n c cs).A w S) : Cells w A cs ∧ n ≤ c ∧ c ≤ maxLen := by
  have := (own_A.1 h).1
  exact ⟨this.cells, this.length.2.1, this.length.2.2⟩

/-! ### The table -/
structure TabAt (w : World) (b : Nat) (x : List Int) : Prop where
  ex : ∃ S sA sc R rA rc m, tabOk S R x m ∧ S.length ≤ sc ∧ R.length ≤ rc ∧ sc ≤ maxLen ∧ BoxAt w b [.slice sA S.length sc, .slice rA R.length rc, .slice none 0 0, .int .i64 (x.length : Nat)] ∧ Cells w sA (i32s S) ∧ Cells w rA (spanC R)
theorem TabAt.below {w w' : World} {b : Nat} {x : List Int} (h : TabAt w b x) (hb : Below w.heap.size w w') : TabAt w' b x := by
  obtain ⟨S, sA, sc, R, rA, rc, m, h1, h2, h3, h4, h5, h6, h7⟩ := h.ex
  exact ⟨S, sA, sc, R, rA, rc, m, h1, h2, h3, h4, h5.below hb, h6.below hb, h7.below hb⟩
theorem TabAt.of {w : World} {b : Nat} {x : List Int} {m : Nat} {Q : Nat → Prop} (h : (tabA b x m).A w Q) : TabAt w b x := by
  obtain ⟨⟨S, sA, sc, R, rA, rc⟩, h1⟩ := exA_A.1 h
  obtain ⟨h2, h3⟩ := andA_A.1 h1
  obtain ⟨_, _, g1, ⟨_, _, g2, ⟨_, _, g3, _⟩, _⟩, _⟩ := seps_A.1 h3
  obtain ⟨k1, k2, k3⟩ := own_at g2
  obtain ⟨k4, k5, k6⟩ := own_at g3
  exact ⟨S, sA, sc, R, rA, rc, m, h2, k2, k5, k3, BoxAt.of g1, k1, k4⟩
theorem flatS_cons (S : List Int) (p : Nat × Nat) (R : List (Nat × Nat)) : flatS S (p :: R) = (S.drop p.1).take p.2 ++ flatS S R := by simp [flatS]
theorem flatS_app (S : List Int) (R Q : List (Nat × Nat)) : flatS S (R ++ Q) = flatS S R ++ flatS S Q := by simp [flatS]
theorem piece_len {S : List Int} {p : Nat × Nat} (h : p.1 + p.2 ≤ S.length) : ((S.drop p.1).take p.2).length = p.2 := by simp; omega
theorem rows_le {S : List Int} : ∀ {R : List (Nat × Nat)}, (∀ p ∈ R, 0 < p.2 ∧ p.1 + p.2 ≤ S.length) → R.length ≤ (flatS S R).length
  | [], _ => by simp
  | p :: R, h => by
    have h1 := h p (List.mem_cons_self ..)
    have h2 := rows_le (R := R) (fun q hq => h q (List.mem_cons_of_mem _ hq))
    have := piece_len h1.2
    rw [flatS_cons, List.length_append, this, List.length_cons]
    omega
theorem spanC_length : ∀ R : List (Nat × Nat), (spanC R).length = R.length * 2
  | [] => rfl
  | (o, n) :: R => by simp [spanC, spanC_length R]; omega
theorem spanC_get : ∀ {R : List (Nat × Nat)} (k : Nat) {p : Nat × Nat}, R[k]? = some p → (spanC R)[k * 2]? = some (.int .i64 (p.1 : Nat)) ∧ (spanC R)[k * 2 + 1]? = some (.int .i64 (p.2 : Nat))
  | [], k, _, h => by simp at h
  | (o, n) :: R, 0, p, h => by
    have : p = (o, n) := by simpa using h.symm
    subst this
    simp [spanC]
  | (o, n) :: R, k + 1, p, h => by
    have := spanC_get (R := R) k (by simpa using h)
    simp only [spanC]
    rw [show (k + 1) * 2 = k * 2 + 1 + 1 by omega, show k * 2 + 1 + 1 + 1 = (k * 2 + 1) + 1 + 1 by omega]
    simpa using this
theorem spanC_app (R Q : List (Nat × Nat)) : spanC (R ++ Q) = spanC R ++ spanC Q := by
  induction R with
  | nil => rfl
  | cons p R ih => simp [spanC, ih]
theorem spanC_take : ∀ (R : List (Nat × Nat)) (k : Nat), (spanC R).take (k * 2) = spanC (R.take k)
  | [], k => by simp [spanC]
  | (o, n) :: R, 0 => by simp [spanC]
  | (o, n) :: R, k + 1 => by rw [show (k + 1) * 2 = k * 2 + 1 + 1 by omega]; simp [spanC, spanC_take R k]
theorem spanC_drop : ∀ (R : List (Nat × Nat)) (k : Nat), (spanC R).drop (k * 2) = spanC (R.drop k)
  | [], k => by simp [spanC]
  | (o, n) :: R, 0 => by simp [spanC]
  | (o, n) :: R, k + 1 => by rw [show (k + 1) * 2 = k * 2 + 1 + 1 by omega]; simp [spanC, spanC_drop R k]
theorem span_cells {w : World} {A : Option Addr} {R : List (Nat × Nat)} (h : Cells w A (spanC R)) {k : Nat} {p : Nat × Nat} (hk : R[k]? = some p) {w' : World} (hb : Below w.heap.size w w') :
    ∃ ad, Value.pointer (A.map (·.add ((k : Int).toNat * 2))) = .pointer (some ad) ∧ ∀ j v, [Value.int .i64 (p.1 : Nat), .int .i64 (p.2 : Nat)][j]? = some v → w'.cell? (ad.add j) = some v := by
  obtain ⟨g1, g2⟩ := spanC_get k hk
  have h1' := h.below hb
  obtain ⟨a, ha, hc1⟩ := h1' _ _ g1
  obtain ⟨a', ha', hc2⟩ := h1' _ _ g2
  have : a' = a := by rw [ha] at ha'; exact (Option.some.inj ha').symm
  subst this
  refine ⟨_, by rw [ha]; rfl, fun j v hj => ?_⟩
  rw [add_add]
  match j, hj with
  | 0, hj =>
    have : v = .int .i64 (p.1 : Nat) := by simpa using hj.symm
    rw [this]; exact hc1
  | 1, hj =>
    have : v = .int .i64 (p.2 : Nat) := by simpa using hj.symm
    rw [this]; exact hc2
  | j + 2, hj => simp at hj

set_option maxHeartbeats 400000 in
theorem len_c (w : World) (b : Nat) (x : List Int) (h : TabAt w b x) : Val Try.prog 108 [.pointer (some ⟨b, 0, none⟩)] w (.int .i64 (x.length : Nat)) := by
  obtain ⟨S, sA, sc, R, rA, rc, m, h1, h2, h3, h4, h5, h6, h7⟩ := h.ex
  refine enterF Try.func108 rfl Try.ntmps108 rfl rfl ?_
  repeat first
    | refine W_seq ?_
    | refine W_skip ?_
    | refine W_block ?_
    | refine W_blk ?_
    | refine W_exit (by rfl) ?_
    | refine W_region (by rfl) ?_
    | refine W_opsnil ?_
    | refine W_pure TOk (by rfl) (by first | trivial | (simp only [okI, and_true, true_and, and_self] <;> omega)) ?_
    | refine W_on (by rfl) (by rfl) (by rfl) ?_
    | refine W_off (by rfl) (by rfl) (by rfl) (by rfl) (by rfl) ?_
    | refine W_offU (by rfl) (by rfl) (by rfl) (by rfl) ?_
    | refine W_cond_t (by rfl) ?_
    | refine W_cond_f (by rfl) ?_
  refine W_load TOk (by rfl) (by rfl) (by rfl) (fun w1 hw => ⟨_, rfl, (h5.below hw.below) 3 _ rfl⟩) ?_
  repeat first
    | refine W_seq ?_
    | refine W_skip ?_
    | refine W_block ?_
    | refine W_blk ?_
    | refine W_exit (by rfl) ?_
    | refine W_region (by rfl) ?_
    | refine W_opsnil ?_
    | refine W_pure TOk (by rfl) (by first | trivial | (simp only [okI, and_true, true_and, and_self] <;> omega)) ?_
    | refine W_on (by rfl) (by rfl) (by rfl) ?_
    | refine W_off (by rfl) (by rfl) (by rfl) (by rfl) (by rfl) ?_
    | refine W_offU (by rfl) (by rfl) (by rfl) (by rfl) ?_
    | refine W_cond_t (by rfl) ?_
    | refine W_cond_f (by rfl) ?_
  exact W_retF (vs := [_]) ⟨rfl, trivial⟩ (Ent.refl _) ⟨rfl, rfl⟩
set_option maxHeartbeats 1000000 in
theorem fits_c (w : World) (b : Nat) (x : List Int) (at_ n : Int) (h : TabAt w b x) (h0 : 0 ≤ at_) (hn : 0 ≤ n) (hx : at_ + n ≤ x.length) : Val Try.prog 186 [.pointer (some ⟨b, 0, none⟩), .int .i64 at_, .int .i64 n] w (.int .i64 0) := by
  obtain ⟨S, sA, sc, R, rA, rc, m, h1, h2, h3, h4, h5, h6, h7⟩ := h.ex
  have hbig := h1.big
  refine enterF Try.func186 rfl Try.ntmps186 rfl rfl ?_
  repeat first
    | refine W_seq ?_
    | refine W_skip ?_
    | refine W_block ?_
    | refine W_blk ?_
    | refine W_exit (by rfl) ?_
    | refine W_region (by rfl) ?_
    | refine W_opsnil ?_
    | refine W_pure TOk (by rfl) (by first | trivial | (simp only [okI, and_true, true_and, and_self] <;> omega)) ?_
    | refine W_on (by rfl) (by rfl) (by rfl) ?_
    | refine W_off (by rfl) (by rfl) (by rfl) (by rfl) (by rfl) ?_
    | refine W_offU (by rfl) (by rfl) (by rfl) (by rfl) ?_
    | refine W_cond_t (by rfl) ?_
    | refine W_cond_f (by rfl) ?_
  refine W_dec 11 (by rfl) (fun h => absurd (of_decide_eq_true h) (by omega)) (fun _ => ?_)
  repeat first
    | refine W_seq ?_
    | refine W_skip ?_
    | refine W_block ?_
    | refine W_blk ?_
    | refine W_exit (by rfl) ?_
    | refine W_region (by rfl) ?_
    | refine W_opsnil ?_
    | refine W_pure TOk (by rfl) (by first | trivial | (simp only [okI, and_true, true_and, and_self] <;> omega)) ?_
    | refine W_on (by rfl) (by rfl) (by rfl) ?_
    | refine W_off (by rfl) (by rfl) (by rfl) (by rfl) (by rfl) ?_
    | refine W_offU (by rfl) (by rfl) (by rfl) (by rfl) ?_
    | refine W_cond_t (by rfl) ?_
    | refine W_cond_f (by rfl) ?_
  refine W_load TOk (by rfl) (by rfl) (by rfl) (fun w1 hw => ⟨_, rfl, (h5.below hw.below) 3 _ rfl⟩) ?_
  repeat first
    | refine W_seq ?_
    | refine W_skip ?_
    | refine W_block ?_
    | refine W_blk ?_
    | refine W_exit (by rfl) ?_
    | refine W_region (by rfl) ?_
    | refine W_opsnil ?_
    | refine W_pure TOk (by rfl) (by first | trivial | (simp only [okI, and_true, true_and, and_self] <;> omega)) ?_
    | refine W_on (by rfl) (by rfl) (by rfl) ?_
    | refine W_off (by rfl) (by rfl) (by rfl) (by rfl) (by rfl) ?_
    | refine W_offU (by rfl) (by rfl) (by rfl) (by rfl) ?_
    | refine W_cond_t (by rfl) ?_
    | refine W_cond_f (by rfl) ?_
  refine W_dec 19 (by rfl) (fun h => absurd (of_decide_eq_true h) (by omega)) (fun _ => ?_)
  repeat first
    | refine W_seq ?_
    | refine W_skip ?_
    | refine W_block ?_
    | refine W_blk ?_
    | refine W_exit (by rfl) ?_
    | refine W_region (by rfl) ?_
    | refine W_opsnil ?_
    | refine W_pure TOk (by rfl) (by first | trivial | (simp only [okI, and_true, true_and, and_self] <;> omega)) ?_
    | refine W_on (by rfl) (by rfl) (by rfl) ?_
    | refine W_off (by rfl) (by rfl) (by rfl) (by rfl) (by rfl) ?_
    | refine W_offU (by rfl) (by rfl) (by rfl) (by rfl) ?_
    | refine W_cond_t (by rfl) ?_
    | refine W_cond_f (by rfl) ?_
  refine W_dec 23 (by rfl) (fun h => absurd (of_decide_eq_true h) (by omega)) (fun _ => ?_)
  repeat first
    | refine W_seq ?_
    | refine W_skip ?_
    | refine W_block ?_
    | refine W_blk ?_
    | refine W_exit (by rfl) ?_
    | refine W_region (by rfl) ?_
    | refine W_opsnil ?_
    | refine W_pure TOk (by rfl) (by first | trivial | (simp only [okI, and_true, true_and, and_self] <;> omega)) ?_
    | refine W_on (by rfl) (by rfl) (by rfl) ?_
    | refine W_off (by rfl) (by rfl) (by rfl) (by rfl) (by rfl) ?_
    | refine W_offU (by rfl) (by rfl) (by rfl) (by rfl) ?_
    | refine W_cond_t (by rfl) ?_
    | refine W_cond_f (by rfl) ?_
  refine W_load TOk (by rfl) (by rfl) (by rfl) (fun w1 hw => ⟨_, rfl, (h5.below hw.below) 3 _ rfl⟩) ?_
  repeat first
    | refine W_seq ?_
    | refine W_skip ?_
    | refine W_block ?_
    | refine W_blk ?_
    | refine W_exit (by rfl) ?_
    | refine W_region (by rfl) ?_
    | refine W_opsnil ?_
    | refine W_pure TOk (by rfl) (by first | trivial | (simp only [okI, and_true, true_and, and_self] <;> omega)) ?_
    | refine W_on (by rfl) (by rfl) (by rfl) ?_
    | refine W_off (by rfl) (by rfl) (by rfl) (by rfl) (by rfl) ?_
    | refine W_offU (by rfl) (by rfl) (by rfl) (by rfl) ?_
    | refine W_cond_t (by rfl) ?_
    | refine W_cond_f (by rfl) ?_
  refine W_cond_d (by rfl) (fun h => absurd h (by omega)) (fun h => ?_)
  repeat first
    | refine W_seq ?_
    | refine W_skip ?_
    | refine W_block ?_
    | refine W_blk ?_
    | refine W_exit (by rfl) ?_
    | refine W_region (by rfl) ?_
    | refine W_opsnil ?_
    | refine W_pure TOk (by rfl) (by first | trivial | (simp only [okI, and_true, true_and, and_self] <;> omega)) ?_
    | refine W_on (by rfl) (by rfl) (by rfl) ?_
    | refine W_off (by rfl) (by rfl) (by rfl) (by rfl) (by rfl) ?_
    | refine W_offU (by rfl) (by rfl) (by rfl) (by rfl) ?_
    | refine W_cond_t (by rfl) ?_
    | refine W_cond_f (by rfl) ?_
  exact W_retF (vs := [_]) ⟨rfl, trivial⟩ (Ent.refl _) ⟨rfl, rfl⟩

theorem cut_eq {x : List Int} {a b : Nat} (h : a + b ≤ x.length) : ((x.drop a).take b).length = b := by simp; omega
set_option maxHeartbeats 1000000 in
theorem pslice_c (w : World) (b : Nat) (x : List Int) (a0 n0 : Nat) (h : TabAt w b x) (hx : a0 + n0 ≤ x.length) :
    Fresh Try.prog 139 [.pointer (some ⟨b, 0, none⟩), .int .i64 (a0 : Nat), .int .i64 (n0 : Nat)] w (fun v M => ∃ A c, v = .tuple #[.slice A n0 c, .int .i64 0] ∧ M = [own 21 1 A n0 c (i32s ((x.drop a0).take n0))]) := by
  obtain ⟨S, sA, sc, R, rA, rc, m, h1, h2, h3, h4, h5, h6, h7⟩ := h.ex
  have hbig := h1.big
  have hrl := rows_le h1.pos
  rw [h1.flat] at hrl
  unfold maxLen at h4
  refine enterF Try.func139 rfl Try.ntmps139 rfl rfl ?_
  repeat first
    | refine W_seq ?_
    | refine W_skip ?_
    | refine W_block ?_
    | refine W_blk ?_
    | refine W_exit (by rfl) ?_
    | refine W_region (by rfl) ?_
    | refine W_opsnil ?_
    | refine W_pure TOk (by rfl) (by first | trivial | (simp only [okI, and_true, true_and, and_self] <;> omega)) ?_
    | refine W_on (by rfl) (by rfl) (by rfl) ?_
    | refine W_off (by rfl) (by rfl) (by rfl) (by rfl) (by rfl) ?_
    | refine W_offU (by rfl) (by rfl) (by rfl) (by rfl) ?_
    | refine W_cond_t (by rfl) ?_
    | refine W_cond_f (by rfl) ?_
  refine W_callV (by rfl) Try.call186 (by rfl) (fun w1 hw => fits_c w1 b x a0 n0 (h.below hw.below) (by omega) (by omega) (by omega)) ?_
  repeat first
    | refine W_seq ?_
    | refine W_skip ?_
    | refine W_block ?_
    | refine W_blk ?_
    | refine W_exit (by rfl) ?_
    | refine W_region (by rfl) ?_
    | refine W_opsnil ?_
    | refine W_pure TOk (by rfl) (by first | trivial | (simp only [okI, and_true, true_and, and_self] <;> omega)) ?_
    | refine W_on (by rfl) (by rfl) (by rfl) ?_
    | refine W_off (by rfl) (by rfl) (by rfl) (by rfl) (by rfl) ?_
    | refine W_offU (by rfl) (by rfl) (by rfl) (by rfl) ?_
    | refine W_cond_t (by rfl) ?_
    | refine W_cond_f (by rfl) ?_
  refine W_make TOk (by rfl) (by rfl) (by rfl) sl48 (by omega) (by omega) (by omega) (by omega) (fun g => ?_)
  simp only [Int.toNat_natCast, Int.toNat_zero, List.replicate_zero, List.flatten_nil]
  repeat first
    | refine W_seq ?_
    | refine W_skip ?_
    | refine W_block ?_
    | refine W_blk ?_
    | refine W_exit (by rfl) ?_
    | refine W_region (by rfl) ?_
    | refine W_opsnil ?_
    | refine W_pure TOk (by rfl) (by first | trivial | (simp only [okI, and_true, true_and, and_self] <;> omega)) ?_
    | refine W_on (by rfl) (by rfl) (by rfl) ?_
    | refine W_off (by rfl) (by rfl) (by rfl) (by rfl) (by rfl) ?_
    | refine W_offU (by rfl) (by rfl) (by rfl) (by rfl) ?_
    | refine W_cond_t (by rfl) ?_
    | refine W_cond_f (by rfl) ?_
  refine W_load TOk (by rfl) (by rfl) (by rfl) (fun w1 hw => ⟨_, rfl, (h5.below hw.below) 1 _ rfl⟩) ?_
  repeat first
    | refine W_seq ?_
    | refine W_skip ?_
    | refine W_block ?_
    | refine W_blk ?_
    | refine W_exit (by rfl) ?_
    | refine W_region (by rfl) ?_
    | refine W_opsnil ?_
    | refine W_pure TOk (by rfl) (by first | trivial | (simp only [okI, and_true, true_and, and_self] <;> omega)) ?_
    | refine W_on (by rfl) (by rfl) (by rfl) ?_
    | refine W_off (by rfl) (by rfl) (by rfl) (by rfl) (by rfl) ?_
    | refine W_offU (by rfl) (by rfl) (by rfl) (by rfl) ?_
    | refine W_cond_t (by rfl) ?_
    | refine W_cond_f (by rfl) ?_
  refine W_loop (ι := Nat × Nat × List Int × Nat × Option Addr × Nat) (fun ⟨k, at_, out, n, A, c⟩ => [(0, .pointer (some ⟨b, 0, none⟩)), (25, .slice rA R.length rc), (26, .int .i64 (R.length : Nat)), (27, .int .i64 (k : Nat)), (1, .int .i64 (at_ : Nat)), (2, .int .i64 (n : Nat)), (9, .slice A out.length c)]) (fun ⟨k, at_, out, n, A, c⟩ => [own 21 1 A out.length c (i32s out)])
    (fun ⟨k, at_, out, n, A, c⟩ => k ≤ R.length ∧ out.length + n = n0 ∧ (x.drop a0).take n0 = out ++ ((flatS S (R.drop k)).drop at_).take n ∧ at_ + n ≤ (flatS S (R.drop k)).length ∧ at_ ≤ a0) (fun q => R.length - q.1) (0, a0, [], n0, some ⟨g, 0, none⟩, n0)
    ⟨by omega, by simp, by simp [h1.flat], by simpa [h1.flat] using hx, by omega⟩ ⟨rfl, rfl, rfl, rfl, rfl, rfl, rfl, trivial⟩ (Ent.refl _) ?_
  rintro ⟨k, at_, out, n, A, c⟩ ⟨hk, hon, hxe, han, haa⟩
  dsimp only at hk hon hxe han haa ⊢
  repeat first
    | refine W_seq ?_
    | refine W_skip ?_
    | refine W_block ?_
    | refine W_blk ?_
    | refine W_exit (by rfl) ?_
    | refine W_region (by rfl) ?_
    | refine W_opsnil ?_
    | refine W_pure TOk (by rfl) (by first | trivial | (simp only [okI, and_true, true_and, and_self] <;> omega)) ?_
    | refine W_on (by rfl) (by rfl) (by rfl) ?_
    | refine W_off (by rfl) (by rfl) (by rfl) (by rfl) (by rfl) ?_
    | refine W_offU (by rfl) (by rfl) (by rfl) (by rfl) ?_
    | refine W_cond_t (by rfl) ?_
    | refine W_cond_f (by rfl) ?_
  refine W_cond_d (by rfl) (fun hlt => ?_) (fun hge => ?_)
  · obtain ⟨⟨o, len⟩, hp⟩ : ∃ p, R[k]? = some p := ⟨R[k]'(by omega), List.getElem?_eq_getElem (by omega)⟩
    have hpm := h1.pos _ (List.mem_of_getElem? hp)
    dsimp only at hpm
    have hS := h1.le
    have hdk : R.drop k = (o, len) :: R.drop (k + 1) := by
      rw [List.drop_eq_getElem_cons (by omega)]
      congr 1
      exact (List.getElem?_eq_some_iff.1 hp).2
    rw [hdk, flatS_cons] at hxe han
    have hpl := piece_len (S := S) (p := (o, len)) hpm.2
    try dsimp only at hpl
    try dsimp only at hxe
    try dsimp only at han
    rw [List.length_append, hpl] at han
    have hflen : (flatS S (R.drop (k + 1))).length ≤ 65536 := by
      have := h1.flat
      rw [← List.take_append_drop k R, flatS_app, hdk, flatS_cons] at this
      have := congrArg List.length this
      rw [List.length_append, List.length_append] at this
      omega
    have hlenb : len ≤ 65536 := by
      have := h1.flat
      rw [← List.take_append_drop k R, flatS_app, hdk, flatS_cons] at this
      have := congrArg List.length this
      rw [List.length_append, List.length_append, hpl] at this
      omega
    repeat first
      | refine W_seq ?_
      | refine W_skip ?_
      | refine W_block ?_
      | refine W_blk ?_
      | refine W_exit (by rfl) ?_
      | refine W_region (by rfl) ?_
      | refine W_opsnil ?_
      | refine W_pure TOk (by rfl) (by first | trivial | (simp only [okI, and_true, true_and, and_self] <;> omega)) ?_
      | refine W_on (by rfl) (by rfl) (by rfl) ?_
      | refine W_off (by rfl) (by rfl) (by rfl) (by rfl) (by rfl) ?_
      | refine W_offU (by rfl) (by rfl) (by rfl) (by rfl) ?_
      | refine W_cond_t (by rfl) ?_
      | refine W_cond_f (by rfl) ?_
    refine W_index TOk (by rfl) (by rfl) (by rfl) (by first | exact es48 | exact es22 | exact es136 | exact es150 | exact es223 | exact es29 | exact es132 | exact es207) (by omega) (by omega) (fun w1 hw => (h7.below hw.below).isSome (by rw [spanC_length]; omega)) ?_
    refine W_loadN TOk (cs := [_, _]) (by rfl) (by rfl) (by rfl) (fun w1 hw => span_cells h7 hp hw.below) ?_
    dsimp only
    refine W_alloc (cs := [_, _]) TOk (by rfl) (by rfl) (fun b2 => ?_)
    repeat first
      | refine W_seq ?_
      | refine W_skip ?_
      | refine W_block ?_
      | refine W_blk ?_
      | refine W_exit (by rfl) ?_
      | refine W_region (by rfl) ?_
      | refine W_opsnil ?_
      | refine W_pure TOk (by rfl) (by first | trivial | (simp only [okI, and_true, true_and, and_self] <;> omega)) ?_
      | refine W_on (by rfl) (by rfl) (by rfl) ?_
      | refine W_off (by rfl) (by rfl) (by rfl) (by rfl) (by rfl) ?_
      | refine W_offU (by rfl) (by rfl) (by rfl) (by rfl) ?_
      | refine W_cond_t (by rfl) ?_
      | refine W_cond_f (by rfl) ?_
      | refine W_load_box 0 TOk (by rfl) (by rfl) (by rfl) (by rfl) (by rfl) ?_
      | refine W_load_boxN 0 TOk (by rfl) (by rfl) (by rfl) (by rfl) (by rfl) ?_
      | (refine W_store_box 0 TOk (by rfl) (by rfl) (by rfl) (by rfl) (by rfl) (by rfl) ?_; dsimp only [setL, putL, vcells])
    refine W_cond_d (by rfl) (fun hn0 => ?_) (fun hn1 => ?_)
    · have e0 : n = 0 := by omega
      subst e0
      repeat first
        | refine W_seq ?_
        | refine W_skip ?_
        | refine W_block ?_
        | refine W_blk ?_
        | refine W_exit (by rfl) ?_
        | refine W_region (by rfl) ?_
        | refine W_opsnil ?_
        | refine W_pure TOk (by rfl) (by first | trivial | (simp only [okI, and_true, true_and, and_self] <;> omega)) ?_
        | refine W_on (by rfl) (by rfl) (by rfl) ?_
        | refine W_off (by rfl) (by rfl) (by rfl) (by rfl) (by rfl) ?_
        | refine W_offU (by rfl) (by rfl) (by rfl) (by rfl) ?_
        | refine W_cond_t (by rfl) ?_
        | refine W_cond_f (by rfl) ?_
      rw [List.take_zero, List.append_nil] at hxe
      have eo : out.length = n0 := by omega
      refine W_retF (vs := [_, _]) ⟨rfl, rfl, trivial⟩ ((Ent.drop1 _ _).trans (Ent.own_cast eo (by rw [hxe]) _)) ⟨A, c, by rw [eo]; rfl, rfl⟩
    · repeat first
        | refine W_seq ?_
        | refine W_skip ?_
        | refine W_block ?_
        | refine W_blk ?_
        | refine W_exit (by rfl) ?_
        | refine W_region (by rfl) ?_
        | refine W_opsnil ?_
        | refine W_pure TOk (by rfl) (by first | trivial | (simp only [okI, and_true, true_and, and_self] <;> omega)) ?_
        | refine W_on (by rfl) (by rfl) (by rfl) ?_
        | refine W_off (by rfl) (by rfl) (by rfl) (by rfl) (by rfl) ?_
        | refine W_offU (by rfl) (by rfl) (by rfl) (by rfl) ?_
        | refine W_cond_t (by rfl) ?_
        | refine W_cond_f (by rfl) ?_
        | refine W_load_box 0 TOk (by rfl) (by rfl) (by rfl) (by rfl) (by rfl) ?_
        | refine W_load_boxN 0 TOk (by rfl) (by rfl) (by rfl) (by rfl) (by rfl) ?_
        | (refine W_store_box 0 TOk (by rfl) (by rfl) (by rfl) (by rfl) (by rfl) (by rfl) ?_; dsimp only [setL, putL, vcells])
      refine W_cond_d (by rfl) (fun hge2 => ?_) (fun hlt2 => ?_)
      · repeat first
          | refine W_seq ?_
          | refine W_skip ?_
          | refine W_block ?_
          | refine W_blk ?_
          | refine W_exit (by rfl) ?_
          | refine W_region (by rfl) ?_
          | refine W_opsnil ?_
          | refine W_pure TOk (by rfl) (by first | trivial | (simp only [okI, and_true, true_and, and_self] <;> omega)) ?_
          | refine W_on (by rfl) (by rfl) (by rfl) ?_
          | refine W_off (by rfl) (by rfl) (by rfl) (by rfl) (by rfl) ?_
          | refine W_offU (by rfl) (by rfl) (by rfl) (by rfl) ?_
          | refine W_cond_t (by rfl) ?_
          | refine W_cond_f (by rfl) ?_
          | refine W_load_box 0 TOk (by rfl) (by rfl) (by rfl) (by rfl) (by rfl) ?_
          | refine W_load_boxN 0 TOk (by rfl) (by rfl) (by rfl) (by rfl) (by rfl) ?_
          | (refine W_store_box 0 TOk (by rfl) (by rfl) (by rfl) (by rfl) (by rfl) (by rfl) ?_; dsimp only [setL, putL, vcells])
        have el : at_ = len + (at_ - len) := by omega
        refine W_inv (k + 1, at_ - len, out, n, A, c) ⟨by dsimp only; omega, hon, ?_, by dsimp only; omega, by dsimp only; omega⟩ (by dsimp only; omega) ⟨rfl, rfl, rfl, rfl, ?_, rfl, rfl, trivial⟩ (Ent.drop1 _ _)
        · dsimp only
          rw [hxe, List.drop_append, List.drop_of_length_le (by omega), hpl, List.nil_append]
        · dsimp only
          show some (Value.int _ _) = some (Value.int _ _)
          congr 2; omega
      · repeat first
          | refine W_seq ?_
          | refine W_skip ?_
          | refine W_block ?_
          | refine W_blk ?_
          | refine W_exit (by rfl) ?_
          | refine W_region (by rfl) ?_
          | refine W_opsnil ?_
          | refine W_pure TOk (by rfl) (by first | trivial | (simp only [okI, and_true, true_and, and_self] <;> omega)) ?_
          | refine W_on (by rfl) (by rfl) (by rfl) ?_
          | refine W_off (by rfl) (by rfl) (by rfl) (by rfl) (by rfl) ?_
          | refine W_offU (by rfl) (by rfl) (by rfl) (by rfl) ?_
          | refine W_cond_t (by rfl) ?_
          | refine W_cond_f (by rfl) ?_
          | refine W_load_box 0 TOk (by rfl) (by rfl) (by rfl) (by rfl) (by rfl) ?_
          | refine W_load_boxN 0 TOk (by rfl) (by rfl) (by rfl) (by rfl) (by rfl) ?_
          | (refine W_store_box 0 TOk (by rfl) (by rfl) (by rfl) (by rfl) (by rfl) (by rfl) ?_; dsimp only [setL, putL, vcells])
        obtain ⟨q, hq, hq1, hq2⟩ : ∃ q : Nat, minI (n : Int) ((len : Int) - (at_ : Int)) = (q : Int) ∧ q = min n (len - at_) ∧ 0 < q := by
          unfold minI
          split
          · exact ⟨len - at_, by omega, by omega, by omega⟩
          · exact ⟨n, rfl, by omega, by omega⟩
        rw [hq]
        repeat first
          | refine W_seq ?_
          | refine W_skip ?_
          | refine W_block ?_
          | refine W_blk ?_
          | refine W_exit (by rfl) ?_
          | refine W_region (by rfl) ?_
          | refine W_opsnil ?_
          | refine W_pure TOk (by rfl) (by first | trivial | (simp only [okI, and_true, true_and, and_self] <;> omega)) ?_
          | refine W_on (by rfl) (by rfl) (by rfl) ?_
          | refine W_off (by rfl) (by rfl) (by rfl) (by rfl) (by rfl) ?_
          | refine W_offU (by rfl) (by rfl) (by rfl) (by rfl) ?_
          | refine W_cond_t (by rfl) ?_
          | refine W_cond_f (by rfl) ?_
          | refine W_load_box 0 TOk (by rfl) (by rfl) (by rfl) (by rfl) (by rfl) ?_
          | refine W_load_boxN 0 TOk (by rfl) (by rfl) (by rfl) (by rfl) (by rfl) ?_
          | (refine W_store_box 0 TOk (by rfl) (by rfl) (by rfl) (by rfl) (by rfl) (by rfl) ?_; dsimp only [setL, putL, vcells])
        refine W_draw (fun w1 => St _ _ w1 _) [16] [(0, 0), (1, 0), (2, 0), (3, 0), (4, 0), (5, 0), (6, 0), (7, 0), (8, 0), (9, 0), (10, 0), (11, 0), (12, 0), (13, 0), (14, 0), (15, 0), (16, 2), (17, 0)] (by kernel_rfl) (fun _ h => h) (by rfl) (by kernel_rfl) (fun hB => ?_)
        repeat first
          | refine D_pure TOk (by kernel_rfl) hB (by rfl) (by rfl) (by first | trivial | (simp only [okI, and_true, true_and, and_self] <;> omega)) (fun hB => ?_)
          | refine D_done hB ?_
          | refine D_shown (fun _ h => h) ?_
          | refine D_shown (fun _ h => h.ent (Ent.drop1 _ _)) ?_
          | refine D_load_box 0 TOk (by kernel_rfl) hB (by rfl) (by rfl) (by rfl) (by rfl) (by rfl) (fun _ h => h) (by rfl) (by rfl) (fun hB => ?_)
          | refine D_load_boxN 0 TOk (by kernel_rfl) hB (by rfl) (by rfl) (by rfl) (by rfl) (by rfl) (by rfl) (fun _ h => h) (by rfl) (fun hB => ?_)
        refine D_load TOk (by kernel_rfl) hB (by rfl) (by rfl) (fun _ h => h) (fun _ h => h) (by rfl) (by rfl) (by rfl) (fun w1 hw => ⟨_, rfl, (h5.below hw.below) 0 _ rfl⟩) (fun hB => ?_)
        repeat first
          | refine D_pure TOk (by kernel_rfl) hB (by rfl) (by rfl) (by first | trivial | (simp only [okI, and_true, true_and, and_self] <;> omega)) (fun hB => ?_)
          | refine D_done hB ?_
          | refine D_shown (fun _ h => h) ?_
          | refine D_shown (fun _ h => h.ent (Ent.drop1 _ _)) ?_
          | refine D_load_box 0 TOk (by kernel_rfl) hB (by rfl) (by rfl) (by rfl) (by rfl) (by rfl) (fun _ h => h) (by rfl) (by rfl) (fun hB => ?_)
          | refine D_load_boxN 0 TOk (by kernel_rfl) hB (by rfl) (by rfl) (by rfl) (by rfl) (by rfl) (by rfl) (fun _ h => h) (by rfl) (fun hB => ?_)
        have e2 : ((o : Int) + (at_ : Int) + (q : Int)).toNat - ((o : Int) + (at_ : Int)).toNat = q := by omega
        have e1 : ((o : Int) + (at_ : Int)).toNat = o + at_ := by omega
        rw [e2, e1]
        have hcut : ∀ w1, Below w.heap.size w w1 → Cells w1 (cutA sA (o + at_) sc 1) (i32s ((S.drop (o + at_)).take q)) := fun w1 hb => by
          have := (h6.below hb).cut32 (o + at_) (o + at_ + q) sc (by omega)
          rwa [Nat.add_sub_cancel_left] at this
        have hpq : ((S.drop (o + at_)).take q).length = q := cut_eq (by omega)
        refine D_last hB (by rfl) (fun hB => ?_)
        refine W_append_own 1 TOk (by rfl) (by rfl) (by rfl) sl48 (by rfl) (fun w1 hw => hcut w1 hw.below) (by rw [i32s_length, hpq, Nat.mul_one]) (by first | exact i32s_one _ | exact i64s_one _ | exact one_of _ rfl) (by unfold maxLen; omega) (by omega) (fun A3 c3 => ?_); dsimp only [setL]
        repeat first
          | refine W_seq ?_
          | refine W_skip ?_
          | refine W_block ?_
          | refine W_blk ?_
          | refine W_exit (by rfl) ?_
          | refine W_region (by rfl) ?_
          | refine W_opsnil ?_
          | refine W_pure TOk (by rfl) (by first | trivial | (simp only [okI, and_true, true_and, and_self] <;> omega)) ?_
          | refine W_on (by rfl) (by rfl) (by rfl) ?_
          | refine W_off (by rfl) (by rfl) (by rfl) (by rfl) (by rfl) ?_
          | refine W_offU (by rfl) (by rfl) (by rfl) (by rfl) ?_
          | refine W_cond_t (by rfl) ?_
          | refine W_cond_f (by rfl) ?_
        repeat first
          | refine D_pure TOk (by kernel_rfl) hB (by rfl) (by rfl) (by first | trivial | (simp only [okI, and_true, true_and, and_self] <;> omega)) (fun hB => ?_)
          | refine D_done hB ?_
          | refine D_shown (fun _ h => h) ?_
          | refine D_shown (fun _ h => h.ent (Ent.drop1 _ _)) ?_
        repeat first
          | refine W_seq ?_
          | refine W_skip ?_
          | refine W_block ?_
          | refine W_blk ?_
          | refine W_exit (by rfl) ?_
          | refine W_region (by rfl) ?_
          | refine W_opsnil ?_
          | refine W_pure TOk (by rfl) (by first | trivial | (simp only [okI, and_true, true_and, and_self] <;> omega)) ?_
          | refine W_on (by rfl) (by rfl) (by rfl) ?_
          | refine W_off (by rfl) (by rfl) (by rfl) (by rfl) (by rfl) ?_
          | refine W_offU (by rfl) (by rfl) (by rfl) (by rfl) ?_
          | refine W_cond_t (by rfl) ?_
          | refine W_cond_f (by rfl) ?_
        have hout : (out ++ (S.drop (o + at_)).take q).length = out.length + q := by rw [List.length_append, hpq]
        refine W_inv (k + 1, 0, out ++ (S.drop (o + at_)).take q, n - q, A3, c3) ⟨by dsimp only; omega, by dsimp only; rw [hout]; omega, ?_, by dsimp only; omega, by dsimp only; omega⟩ (by dsimp only; omega) ⟨rfl, rfl, rfl, rfl, rfl, ?_, ?_, trivial⟩ ?_
        · dsimp only
          rw [hxe, List.append_assoc]
          congr 1
          rw [List.drop_zero, List.drop_append, show at_ - ((S.drop o).take len).length = 0 by omega, List.drop_zero, List.drop_take, List.drop_drop, List.take_append, List.length_take, List.length_drop]
          rcases Nat.le_total n (len - at_) with hc | hc
          · rw [show q = n by omega, show n - n = 0 by omega, List.take_zero, List.take_take, Nat.min_eq_left hc]
            rw [show n - min (len - at_) (S.length - (o + at_)) = 0 by omega, List.take_zero]
          · rw [show q = len - at_ by omega, List.take_take, Nat.min_eq_right hc]
            rw [show min (len - at_) (S.length - (o + at_)) = len - at_ by omega]
        · dsimp only
          show some (Value.int _ _) = some (Value.int _ _)
          congr 2; omega
        · dsimp only; rw [hout]; rfl
        · dsimp only
          exact (Ent.drop1 _ _).trans (Ent.own_cast hout.symm (by simp [i32s]) _)
  · repeat first
      | refine W_seq ?_
      | refine W_skip ?_
      | refine W_block ?_
      | refine W_blk ?_
      | refine W_exit (by rfl) ?_
      | refine W_region (by rfl) ?_
      | refine W_opsnil ?_
      | refine W_pure TOk (by rfl) (by first | trivial | (simp only [okI, and_true, true_and, and_self] <;> omega)) ?_
      | refine W_on (by rfl) (by rfl) (by rfl) ?_
      | refine W_off (by rfl) (by rfl) (by rfl) (by rfl) (by rfl) ?_
      | refine W_offU (by rfl) (by rfl) (by rfl) (by rfl) ?_
      | refine W_cond_t (by rfl) ?_
      | refine W_cond_f (by rfl) ?_
    have ek : k = R.length := by omega
    subst ek
    rw [List.drop_length] at hxe han
    have e0 : n = 0 := by simp [flatS] at han; omega
    subst e0
    rw [List.take_zero, List.append_nil] at hxe
    have eo : out.length = n0 := by omega
    refine W_retF (vs := [_, _]) ⟨rfl, rfl, trivial⟩ (Ent.own_cast eo (by rw [hxe]) _) ⟨A, c, by rw [eo]; rfl, rfl⟩

/-! ### The text -/
structure ixIs (x : List Int) (ss : List (List Int)) : Prop where
  flat : ss.flatten = lens x
  ne : ∀ s ∈ ss, s ≠ []
theorem lens_le (x : List Int) : (lens x).length ≤ x.length + 1 := lens_length x
theorem lens_pos (x : List Int) : 0 < (lens x).length := by
  rcases Nat.eq_zero_or_pos (lens x).length with h | h
  · exact absurd (List.eq_nil_of_length_eq_zero h) (lens_ne x)
  · exact h
theorem ixIs.ok {x : List Int} {ss : List (List Int)} (h : ixIs x ss) (hb : x.length ≤ 65536) : IxOk ss := by
  have h1 := len_le_flat h.ne
  have h2 := lens_le x
  rw [h.flat] at h1
  exact ⟨by omega, by rw [h.flat]; omega, by rw [h.flat]; exact fun n hn => (lens_mem n hn).1, by rw [h.flat, bsum_lens]; omega⟩
abbrev TextQ := Nat × Option Addr × Nat × List (List Int)
def textL (b : Nat) (x : List Int) (m : Nat) (q : TextQ) : List Ast := [box b 155 [.pointer (some ⟨q.1, 0, none⟩), .slice q.2.1 q.2.2.2.length q.2.2.1, .int .i64 ((lens x).length : Nat)], tabA q.1 x m, blocksA q.2.1 q.2.2.1 q.2.2.2]
def textF (b : Nat) (x : List Int) (m : Nat) (q : TextQ) : Ast := andA (ixIs x q.2.2.2) (seps (textL b x m q))
def textA (b : Nat) (x : List Int) (m : Nat) : Ast := exA (textF b x m)
theorem Ent.text_in {b : Nat} {x : List Int} {m : Nat} (q : TextQ) (h : ixIs x q.2.2.2) (L : List Ast) : Ent (textL b x m q ++ L) (textA b x m :: L) :=
  (Ent.seps_in (textL b x m q) L).trans ((Ent.andA_in h _ _).trans (Ent.exA_in (textF b x m) q L))
theorem W_text {X : Cx} {k : List It} {F : Fr} {L : List Ast} {b : Nat} {x : List Int} {m : Nat}
    (h : ∀ tb A c ss, ixIs x ss → W X k F (box b 155 [.pointer (some ⟨tb, 0, none⟩), .slice A ss.length c, .int .i64 ((lens x).length : Nat)] :: tabA tb x m :: blocksA A c ss :: L)) : W X k F (textA b x m :: L) :=
  W_exA fun q => W_andA fun hq => W_seps (h q.1 q.2.1 q.2.2.1 q.2.2.2 hq)
structure TextAt (w : World) (b : Nat) (x : List Int) : Prop where
  ex : ∃ tb A c ss, ixIs x ss ∧ BoxAt w b [.pointer (some ⟨tb, 0, none⟩), .slice A ss.length c, .int .i64 ((lens x).length : Nat)] ∧ TabAt w tb x ∧ BlocksAt w A ss ∧ ss.length ≤ c
theorem TextAt.below {w w' : World} {b : Nat} {x : List Int} (h : TextAt w b x) (hb : Below w.heap.size w w') : TextAt w' b x := by
  obtain ⟨tb, A, c, ss, h1, h2, h3, h4, h5⟩ := h.ex
  exact ⟨tb, A, c, ss, h1, h2.below hb, h3.below hb, h4.below hb, h5⟩
theorem BlocksAt.of {w : World} {A : Option Addr} {c : Nat} {ss : List (List Int)} {Q : Nat → Prop} (h : (blocksA A c ss).A w Q) : BlocksAt w A ss ∧ ss.length ≤ c := by
  obtain ⟨vs, h1⟩ := exA_A.1 h
  obtain ⟨h2, h3⟩ := andA_A.1 h1
  obtain ⟨_, _, g1, ⟨_, _, g2, _⟩, _⟩ := seps_A.1 h3
  obtain ⟨k1, k2, k3⟩ := own_at g1
  refine ⟨⟨vs, k1, h2, fun i s hi => ?_⟩, k2⟩
  have hlt : i < vs.length := by rw [h2]; exact (List.getElem?_eq_some_iff.1 hi).1
  obtain ⟨S1, g⟩ := HpS.nth i (a := intsA vs[i] s) (seps_A.1 g2) (by rw [List.getElem?_zipWith, List.getElem?_eq_getElem hlt, hi])
  obtain ⟨⟨B, c'⟩, g4⟩ := exA_A.1 g
  obtain ⟨e, g5⟩ := andA_A.1 g4
  obtain ⟨k4, k5, k6⟩ := own_at g5
  exact ⟨B, c', by rw [List.getElem?_eq_getElem hlt, e], k5, k4⟩
theorem TextAt.of {w : World} {b : Nat} {x : List Int} {m : Nat} {Q : Nat → Prop} (h : (textA b x m).A w Q) : TextAt w b x := by
  obtain ⟨⟨tb, A, c, ss⟩, h1⟩ := exA_A.1 h
  obtain ⟨h2, h3⟩ := andA_A.1 h1
  obtain ⟨_, _, g1, ⟨_, _, g2, ⟨_, _, g3, _⟩, _⟩, _⟩ := seps_A.1 h3
  exact ⟨tb, A, c, ss, h2, BoxAt.of g1, TabAt.of g2, (BlocksAt.of g3).1, (BlocksAt.of g3).2⟩
theorem textAt {B : Nat} {w : World} {L : List Ast} (i : Nat) (h : Hp B w L) {b : Nat} {x : List Int} {m : Nat} (hi : L[i]? = some (textA b x m)) : TextAt w b x := by
  obtain ⟨S, hS, _⟩ := h.nth i hi
  exact TextAt.of hS
theorem TextAt.big {w : World} {b : Nat} {x : List Int} (h : TextAt w b x) : x.length ≤ 65536 := by
  obtain ⟨tb, A, c, ss, h1, h2, h3, h4, h5⟩ := h.ex
  obtain ⟨S, sA, sc, R, rA, rc, m, g1, _⟩ := h3.ex
  exact g1.big
theorem boxAt_cell {w : World} {b : Nat} {cs : List Value} (h : BoxAt w b cs) {o : Nat} {v : Value} (hv : cs[o]? = some v) {w' : World} (hb : Below w.heap.size w w') : ∃ ad, Value.pointer (some ⟨b, o, none⟩) = .pointer (some ad) ∧ w'.cell? ad = some v :=
  ⟨_, rfl, h.below hb o v hv⟩

def okT (xss : List (List Int)) : Prop := plainL xss = true ∧ runes xss ≤ 65536
def NewR (xss : List (List Int)) (v : Value) (M : List Ast) : Prop := (okT xss ∧ ∃ b, v = .pointer (some ⟨b, 0, none⟩) ∧ M = [textA b (joinL xss) (joinL xss).length]) ∨ (¬ okT xss ∧ v = .pointer none ∧ M = [])
set_option maxHeartbeats 1000000 in
theorem New_c (w : World) (A0 : Option Addr) (c0 : Nat) (xss : List (List Int)) (hl : RowsAt w A0 xss) (hb : xss.length + tot xss ≤ 1099511627776) :
    Fresh Try.prog 38 [.slice A0 xss.length c0] w (NewR xss) := by
  have hjl := joinL_length xss
  refine enterF Try.func38 rfl Try.ntmps38 rfl rfl ?_
  repeat first
    | refine W_seq ?_
    | refine W_skip ?_
    | refine W_block ?_
    | refine W_blk ?_
    | refine W_exit (by rfl) ?_
    | refine W_region (by rfl) ?_
    | refine W_opsnil ?_
    | refine W_pure TOk (by rfl) (by first | trivial | (simp only [okI, and_true, true_and, and_self] <;> omega)) ?_
    | refine W_on (by rfl) (by rfl) (by rfl) ?_
    | refine W_off (by rfl) (by rfl) (by rfl) (by rfl) (by rfl) ?_
    | refine W_offU (by rfl) (by rfl) (by rfl) (by rfl) ?_
    | refine W_cond_t (by rfl) ?_
    | refine W_cond_f (by rfl) ?_
  refine W_call _ (by rfl) Try.call104 (by rfl) (fun w1 hw => joined_c w1 A0 c0 xss (hl.below hw.below) hb) ?_
  intro v0 M0 hj0
  rcases hj0 with ⟨hp, rfl, rfl⟩ | ⟨hp, A, c, rfl, rfl⟩ <;> dsimp only [List.cons_append, List.nil_append]
  · repeat first
      | refine W_seq ?_
      | refine W_skip ?_
      | refine W_block ?_
      | refine W_blk ?_
      | refine W_exit (by rfl) ?_
      | refine W_region (by rfl) ?_
      | refine W_opsnil ?_
      | refine W_pure TOk (by rfl) (by first | trivial | (simp only [okI, and_true, true_and, and_self] <;> omega)) ?_
      | refine W_on (by rfl) (by rfl) (by rfl) ?_
      | refine W_off (by rfl) (by rfl) (by rfl) (by rfl) (by rfl) ?_
      | refine W_offU (by rfl) (by rfl) (by rfl) (by rfl) ?_
      | refine W_cond_t (by rfl) ?_
      | refine W_cond_f (by rfl) ?_
    exact W_retF (vs := [_]) ⟨rfl, trivial⟩ (Ent.refl _) (.inr ⟨fun h => absurd (hp.symm.trans h.1) (by decide), rfl, rfl⟩)
  · repeat first
      | refine W_seq ?_
      | refine W_skip ?_
      | refine W_block ?_
      | refine W_blk ?_
      | refine W_exit (by rfl) ?_
      | refine W_region (by rfl) ?_
      | refine W_opsnil ?_
      | refine W_pure TOk (by rfl) (by first | trivial | (simp only [okI, and_true, true_and, and_self] <;> omega)) ?_
      | refine W_on (by rfl) (by rfl) (by rfl) ?_
      | refine W_off (by rfl) (by rfl) (by rfl) (by rfl) (by rfl) ?_
      | refine W_offU (by rfl) (by rfl) (by rfl) (by rfl) ?_
      | refine W_cond_t (by rfl) ?_
      | refine W_cond_f (by rfl) ?_
    by_cases hbig : (joinL xss).length ≤ 65536
    · refine W_call _ (by rfl) Try.call105 (by rfl) (fun w1 hw => pieceNew_c w1 A c (joinL xss) (hw.hp.cells 0 rfl) hbig) ?_; rintro _ _ ⟨tb, rfl, rfl⟩; dsimp only [List.cons_append, List.nil_append]
      repeat first
        | refine W_seq ?_
        | refine W_skip ?_
        | refine W_block ?_
        | refine W_blk ?_
        | refine W_exit (by rfl) ?_
        | refine W_region (by rfl) ?_
        | refine W_opsnil ?_
        | refine W_pure TOk (by rfl) (by first | trivial | (simp only [okI, and_true, true_and, and_self] <;> omega)) ?_
        | refine W_on (by rfl) (by rfl) (by rfl) ?_
        | refine W_off (by rfl) (by rfl) (by rfl) (by rfl) (by rfl) ?_
        | refine W_offU (by rfl) (by rfl) (by rfl) (by rfl) ?_
        | refine W_cond_t (by rfl) ?_
        | refine W_cond_f (by rfl) ?_
      refine W_call _ (by rfl) Try.call106 (by rfl) (fun w1 hw => indexed_c w1 A c (joinL xss) (hw.hp.cells 1 rfl) (by omega)) ?_; rintro _ _ ⟨A2, c2, ss, rfl, hfl, hne, rfl⟩; dsimp only [List.cons_append, List.nil_append]
      repeat first
        | refine W_seq ?_
        | refine W_skip ?_
        | refine W_block ?_
        | refine W_blk ?_
        | refine W_exit (by rfl) ?_
        | refine W_region (by rfl) ?_
        | refine W_opsnil ?_
        | refine W_pure TOk (by rfl) (by first | trivial | (simp only [okI, and_true, true_and, and_self] <;> omega)) ?_
        | refine W_on (by rfl) (by rfl) (by rfl) ?_
        | refine W_off (by rfl) (by rfl) (by rfl) (by rfl) (by rfl) ?_
        | refine W_offU (by rfl) (by rfl) (by rfl) (by rfl) ?_
        | refine W_cond_t (by rfl) ?_
        | refine W_cond_f (by rfl) ?_
      refine W_box (cs := [_, _, _]) (by rfl) (by rfl) (by rfl) (fun b => ?_)
      repeat first
        | refine W_seq ?_
        | refine W_skip ?_
        | refine W_block ?_
        | refine W_blk ?_
        | refine W_exit (by rfl) ?_
        | refine W_region (by rfl) ?_
        | refine W_opsnil ?_
        | refine W_pure TOk (by rfl) (by first | trivial | (simp only [okI, and_true, true_and, and_self] <;> omega)) ?_
        | refine W_on (by rfl) (by rfl) (by rfl) ?_
        | refine W_off (by rfl) (by rfl) (by rfl) (by rfl) (by rfl) ?_
        | refine W_offU (by rfl) (by rfl) (by rfl) (by rfl) ?_
        | refine W_cond_t (by rfl) ?_
        | refine W_cond_f (by rfl) ?_
      refine W_retF (vs := [_]) ⟨rfl, trivial⟩ (M := [textA b (joinL xss) (joinL xss).length]) ?_ (.inl ⟨⟨hp, by omega⟩, b, rfl, rfl⟩)
      exact (Ent.cons _ (Ent.swap _ _ _)).trans (((Ent.cons _ (Ent.cons _ (Ent.snd _ _ _)))).trans (Ent.text_in (tb, A2, c2, ss) ⟨hfl, hne⟩ []))
    · refine W_callV (by rfl) Try.call105 (by rfl) (fun w1 hw => pieceNew_no w1 A c (joinL xss) (by omega)) ?_
      repeat first
        | refine W_seq ?_
        | refine W_skip ?_
        | refine W_block ?_
        | refine W_blk ?_
        | refine W_exit (by rfl) ?_
        | refine W_region (by rfl) ?_
        | refine W_opsnil ?_
        | refine W_pure TOk (by rfl) (by first | trivial | (simp only [okI, and_true, true_and, and_self] <;> omega)) ?_
        | refine W_on (by rfl) (by rfl) (by rfl) ?_
        | refine W_off (by rfl) (by rfl) (by rfl) (by rfl) (by rfl) ?_
        | refine W_offU (by rfl) (by rfl) (by rfl) (by rfl) ?_
        | refine W_cond_t (by rfl) ?_
        | refine W_cond_f (by rfl) ?_
      exact W_retF (vs := [_]) ⟨rfl, trivial⟩ (Ent.nil _) (.inr ⟨fun h => absurd h.2 (by omega), rfl, rfl⟩)
end Go.Proofs.Ytdfibmbedjpcgaa
