/- Contracts of the index's reading functions: where a line begins, which line has an offset. -/
import Derived.Test.YtdfibmbedjpcgaaR6
set_option linter.unusedVariables false
set_option linter.unusedSimpArgs false
namespace Go.Proofs.Ytdfibmbedjpcgaa
open Go Go.RowKit Eng Ls
attribute [local irreducible] Eng.W

structure BlocksAt (w : World) (A : Option Addr) (ss : List (List Int)) : Prop where
  ex : ∃ vs, Cells w A (blkC vs ss) ∧ vs.length = ss.length ∧ ∀ (i : Nat) s, ss[i]? = some s → ∃ B c, vs[i]? = some (.slice B s.length c) ∧ s.length ≤ c ∧ Cells w B (i64s s)
theorem BlocksAt.below {w w' : World} {A : Option Addr} {ss : List (List Int)} (h : BlocksAt w A ss) (hb : Below w.heap.size w w') : BlocksAt w' A ss := by
  obtain ⟨vs, h1, h2, h3⟩ := h.ex
  refine ⟨vs, h1.below hb, h2, fun i xs hi => ?_⟩
  obtain ⟨B, c, h4, h5, h6⟩ := h3 i xs hi
  exact ⟨B, c, h4, h5, h6.below hb⟩
theorem blkC_length : ∀ {vs : List Value} {ss : List (List Int)}, vs.length = ss.length → (blkC vs ss).length = ss.length * 2
  | [], [], _ => rfl
  | a :: vs, b :: ss, h => by simp [blkC, blkC_length (show vs.length = ss.length by simpa using h)]; omega
  | [], _ :: _, h => by simp at h
  | _ :: _, [], h => by simp at h
theorem blkC_get : ∀ {vs : List Value} {ss : List (List Int)} (i : Nat) {v : Value} {s : List Int}, vs[i]? = some v → ss[i]? = some s → (blkC vs ss)[i * 2]? = some v ∧ (blkC vs ss)[i * 2 + 1]? = some (.int .i64 (bsum s))
  | [], _, i, _, _, h, _ => by simp at h
  | _ :: _, [], i, _, _, _, h => by simp at h
  | a :: vs, b :: ss, 0, v, s, h1, h2 => by
    simp at h1 h2
    subst h1; subst h2
    simp [blkC]
  | a :: vs, b :: ss, i + 1, v, s, h1, h2 => by
    have := blkC_get (vs := vs) (ss := ss) i (by simpa using h1) (by simpa using h2)
    simp only [blkC]
    rw [show (i + 1) * 2 = i * 2 + 1 + 1 by omega, show i * 2 + 1 + 1 + 1 = (i * 2 + 1) + 1 + 1 by omega]
    simpa using this
theorem BlocksAt.isSome {w : World} {A : Option Addr} {ss : List (List Int)} (h : BlocksAt w A ss) (hl : 0 < ss.length) : A.isSome = true := by
  obtain ⟨vs, h1, h2, h3⟩ := h.ex
  exact h1.isSome (by rw [blkC_length h2]; omega)
theorem BlocksAt.blk {w : World} {A : Option Addr} {ss : List (List Int)} (h : BlocksAt w A ss) {q : Nat} (hq : q < ss.length) :
    ∃ B c, (rw_ ss q).length ≤ c ∧ Cells w B (i64s (rw_ ss q)) ∧ ∀ w', Below w.heap.size w w' → ∃ ad, Value.pointer (A.map (·.add ((q : Int).toNat * 2))) = .pointer (some ad) ∧ ∀ j v, [Value.slice B (rw_ ss q).length c, .int .i64 (bsum (rw_ ss q))][j]? = some v → w'.cell? (ad.add j) = some v := by
  obtain ⟨vs, h1, h2, h3⟩ := h.ex
  have hg := rw_get (xss := ss) (i := (q : Int)) (by omega) (by omega)
  rw [show ((q : Int)).toNat = q by omega] at hg
  obtain ⟨B, c, h4, h5, h6⟩ := h3 q _ hg
  obtain ⟨g1, g2⟩ := blkC_get q h4 hg
  refine ⟨B, c, h5, h6, fun w' hb => ?_⟩
  have h1' := h1.below hb
  obtain ⟨a, ha, hc1⟩ := h1' _ _ g1
  obtain ⟨a', ha', hc2⟩ := h1' _ _ g2
  have : a' = a := by rw [ha] at ha'; exact (Option.some.inj ha').symm
  subst this
  refine ⟨_, by rw [ha]; rfl, fun j v hj => ?_⟩
  rw [add_add]
  match j, hj with
  | 0, hj =>
    have : v = .slice B (rw_ ss q).length c := by simpa using hj.symm
    rw [this]; exact hc1
  | 1, hj =>
    have : v = .int .i64 (bsum (rw_ ss q)) := by simpa using hj.symm
    rw [this]; exact hc2
  | j + 2, hj => simp at hj

structure IxOk (ss : List (List Int)) : Prop where
  len : ss.length ≤ 1073741824
  flen : ss.flatten.length ≤ 1073741824
  pos : ∀ x ∈ ss.flatten, 0 ≤ x
  sum : bsum ss.flatten ≤ 1099511627776
theorem IxOk.blk {ss : List (List Int)} (h : IxOk ss) {q : Nat} (hq : q < ss.length) : (rw_ ss q).length ≤ 1073741824 ∧ (∀ x ∈ rw_ ss q, 0 ≤ x) ∧ 0 ≤ bsum (rw_ ss q) ∧ 0 ≤ bsum (ss.take q).flatten ∧ bsum (ss.take q).flatten + bsum (rw_ ss q) ≤ 1099511627776 ∧ (ss.take q).flatten.length + (rw_ ss q).length ≤ 1073741824 := by
  have hg := rw_get (xss := ss) (i := (q : Int)) (by omega) (by omega)
  rw [show ((q : Int)).toNat = q by omega] at hg
  have e := flat_take_succ hg
  have e2 := flat_split ss (q + 1)
  rw [e] at e2
  have hp : ∀ x ∈ rw_ ss q, 0 ≤ x := fun x hx => h.pos x (by rw [e2]; simp [hx])
  have hp2 : ∀ x ∈ (ss.take q).flatten, 0 ≤ x := fun x hx => h.pos x (by rw [flat_split ss q]; exact List.mem_append_left _ hx)
  have hp3 : ∀ x ∈ (ss.drop (q + 1)).flatten, 0 ≤ x := fun x hx => h.pos x (by rw [e2]; exact List.mem_append_right _ hx)
  have hb := h.sum
  have hf := h.flen
  rw [e2, bsum_append, bsum_append] at hb
  rw [e2, List.length_append, List.length_append] at hf
  have := bsum_nonneg hp
  have := bsum_nonneg hp2
  have := bsum_nonneg hp3
  exact ⟨by omega, hp, by omega, by omega, by omega, by omega⟩

set_option maxHeartbeats 1000000 in
theorem start_c (w : World) (b : Nat) (A : Option Addr) (c : Nat) (ss : List (List Int)) (i : Int) (hcell : w.cell? ⟨b, 1, none⟩ = some (.slice A ss.length c)) (hbl : BlocksAt w A ss) (hok : IxOk ss) (h0 : 0 ≤ i) (hi : i ≤ 1099511627776) :
    Val Try.prog 110 [.pointer (some ⟨b, 1, none⟩), .int .i64 i] w (.tuple #[.int .i64 (bsum (ss.flatten.take i.toNat)), .int .i64 (rd ss.flatten i)]) := by
  refine enterF Try.func110 rfl Try.ntmps110 rfl rfl ?_
  have hbnd := hok.len
  repeat first
    | refine W_seq ?_
    | refine W_skip ?_
    | refine W_block ?_
    | refine W_blk ?_
    | refine W_exit (by rfl) ?_
    | refine W_region (by rfl) ?_
    | refine W_opsnil ?_
    | refine W_pure TOk (by rfl) (by first | trivial | (simp only [okI, and_true, true_and, and_self] <;> omega)) ?_
    | refine W_on (by rfl) (by rfl) (by rfl) ?_
    | refine W_off (by rfl) (by rfl) (by rfl) (by rfl) (by rfl) ?_
    | refine W_offU (by rfl) (by rfl) (by rfl) (by rfl) ?_
    | refine W_cond_t (by rfl) ?_
    | refine W_cond_f (by rfl) ?_
  refine W_load TOk (by rfl) (by rfl) (by rfl) (fun w1 hw => ⟨_, rfl, (hw.below.cell (World.block_lt_of_cell? w _ hcell)).trans hcell⟩) ?_
  repeat first
    | refine W_seq ?_
    | refine W_skip ?_
    | refine W_block ?_
    | refine W_blk ?_
    | refine W_exit (by rfl) ?_
    | refine W_region (by rfl) ?_
    | refine W_opsnil ?_
    | refine W_pure TOk (by rfl) (by first | trivial | (simp only [okI, and_true, true_and, and_self] <;> omega)) ?_
    | refine W_on (by rfl) (by rfl) (by rfl) ?_
    | refine W_off (by rfl) (by rfl) (by rfl) (by rfl) (by rfl) ?_
    | refine W_offU (by rfl) (by rfl) (by rfl) (by rfl) ?_
    | refine W_cond_t (by rfl) ?_
    | refine W_cond_f (by rfl) ?_
  refine W_loop (ι := Nat) (fun q => [(14, .slice A ss.length c), (15, .int .i64 (ss.length : Nat)), (16, .int .i64 (q : Nat)), (1, .int .i64 (i - ((ss.take q).flatten.length : Nat))), (6, .int .i64 (bsum (ss.take q).flatten))]) (fun _ => [])
    (fun q => q ≤ ss.length ∧ ((ss.take q).flatten.length : Int) ≤ i) (fun q => ss.length - q) 0 ⟨by omega, by simpa using h0⟩ ⟨rfl, rfl, rfl, by simp; rfl, rfl, trivial⟩ (Ent.refl _) ?_
  rintro q ⟨hq, hpre⟩
  repeat first
    | refine W_seq ?_
    | refine W_skip ?_
    | refine W_block ?_
    | refine W_blk ?_
    | refine W_exit (by rfl) ?_
    | refine W_region (by rfl) ?_
    | refine W_opsnil ?_
    | refine W_pure TOk (by rfl) (by first | trivial | (simp only [okI, and_true, true_and, and_self] <;> omega)) ?_
    | refine W_on (by rfl) (by rfl) (by rfl) ?_
    | refine W_off (by rfl) (by rfl) (by rfl) (by rfl) (by rfl) ?_
    | refine W_offU (by rfl) (by rfl) (by rfl) (by rfl) ?_
    | refine W_cond_t (by rfl) ?_
    | refine W_cond_f (by rfl) ?_
  refine W_cond_d (by rfl) (fun hlt => ?_) (fun hge => ?_)
  · obtain ⟨B, cB, hcB, hR, hvs⟩ := hbl.blk (q := q) (by omega)
    obtain ⟨k1, k2, k3, k4, k5, k6⟩ := hok.blk (q := q) (by omega)
    have hg := rw_get (xss := ss) (i := (q : Int)) (by omega) (by omega)
    rw [show ((q : Int)).toNat = q by omega] at hg
    have e := flat_take_succ hg
    repeat first
      | refine W_seq ?_
      | refine W_skip ?_
      | refine W_block ?_
      | refine W_blk ?_
      | refine W_exit (by rfl) ?_
      | refine W_region (by rfl) ?_
      | refine W_opsnil ?_
      | refine W_pure TOk (by rfl) (by first | trivial | (simp only [okI, and_true, true_and, and_self] <;> omega)) ?_
      | refine W_on (by rfl) (by rfl) (by rfl) ?_
      | refine W_off (by rfl) (by rfl) (by rfl) (by rfl) (by rfl) ?_
      | refine W_offU (by rfl) (by rfl) (by rfl) (by rfl) ?_
      | refine W_cond_t (by rfl) ?_
      | refine W_cond_f (by rfl) ?_
    refine W_index TOk (by rfl) (by rfl) (by rfl) (by first | exact es48 | exact es22 | exact es136 | exact es150 | exact es223 | exact es29 | exact es132 | exact es207) (by omega) (by omega) (fun w1 hw => (hbl.below hw.below).isSome (by omega)) ?_
    refine W_loadN TOk (cs := [_, _]) (by rfl) (by rfl) (by rfl) (fun w1 hw => hvs w1 hw.below) ?_
    refine W_alloc (cs := [_, _]) TOk (by rfl) (by rfl) (fun b2 => ?_)
    repeat first
      | refine W_seq ?_
      | refine W_skip ?_
      | refine W_block ?_
      | refine W_blk ?_
      | refine W_exit (by rfl) ?_
      | refine W_region (by rfl) ?_
      | refine W_opsnil ?_
      | refine W_pure TOk (by rfl) (by first | trivial | (simp only [okI, and_true, true_and, and_self] <;> omega)) ?_
      | refine W_on (by rfl) (by rfl) (by rfl) ?_
      | refine W_off (by rfl) (by rfl) (by rfl) (by rfl) (by rfl) ?_
      | refine W_offU (by rfl) (by rfl) (by rfl) (by rfl) ?_
      | refine W_cond_t (by rfl) ?_
      | refine W_cond_f (by rfl) ?_
      | refine W_load_box 0 TOk (by rfl) (by rfl) (by rfl) (by rfl) (by rfl) ?_
      | refine W_load_boxN 0 TOk (by rfl) (by rfl) (by rfl) (by rfl) (by rfl) ?_
      | (refine W_store_box 0 TOk (by rfl) (by rfl) (by rfl) (by rfl) (by rfl) (by rfl) ?_; dsimp only [setL, putL, vcells])
    refine W_cond_d (by rfl) (fun hge2 => ?_) (fun hlt2 => ?_)
    · repeat first
        | refine W_seq ?_
        | refine W_skip ?_
        | refine W_block ?_
        | refine W_blk ?_
        | refine W_exit (by rfl) ?_
        | refine W_region (by rfl) ?_
        | refine W_opsnil ?_
        | refine W_pure TOk (by rfl) (by first | trivial | (simp only [okI, and_true, true_and, and_self] <;> omega)) ?_
        | refine W_on (by rfl) (by rfl) (by rfl) ?_
        | refine W_off (by rfl) (by rfl) (by rfl) (by rfl) (by rfl) ?_
        | refine W_offU (by rfl) (by rfl) (by rfl) (by rfl) ?_
        | refine W_cond_t (by rfl) ?_
        | refine W_cond_f (by rfl) ?_
        | refine W_load_box 0 TOk (by rfl) (by rfl) (by rfl) (by rfl) (by rfl) ?_
        | refine W_load_boxN 0 TOk (by rfl) (by rfl) (by rfl) (by rfl) (by rfl) ?_
        | (refine W_store_box 0 TOk (by rfl) (by rfl) (by rfl) (by rfl) (by rfl) (by rfl) ?_; dsimp only [setL, putL, vcells])
      refine W_inv (q + 1) ⟨by omega, by rw [e, List.length_append]; omega⟩ (by omega) ⟨rfl, rfl, rfl, ?_, ?_, trivial⟩ (Ent.nil _)
      · rw [e, List.length_append]
        show some (Value.int _ _) = some (Value.int _ _)
        congr 2; omega
      · rw [e, bsum_append]; rfl
    · have hi2 : (i - ((ss.take q).flatten.length : Nat)) < (rw_ ss q).length := by omega
      obtain ⟨ln, hln⟩ : ∃ ln : Nat, i - ((ss.take q).flatten.length : Nat) = (ln : Int) := ⟨(i - ((ss.take q).flatten.length : Nat)).toNat, by omega⟩
      rw [hln] at hi2 ⊢
      repeat first
        | refine W_seq ?_
        | refine W_skip ?_
        | refine W_block ?_
        | refine W_blk ?_
        | refine W_exit (by rfl) ?_
        | refine W_region (by rfl) ?_
        | refine W_opsnil ?_
        | refine W_pure TOk (by rfl) (by first | trivial | (simp only [okI, and_true, true_and, and_self] <;> omega)) ?_
        | refine W_on (by rfl) (by rfl) (by rfl) ?_
        | refine W_off (by rfl) (by rfl) (by rfl) (by rfl) (by rfl) ?_
        | refine W_offU (by rfl) (by rfl) (by rfl) (by rfl) ?_
        | refine W_cond_t (by rfl) ?_
        | refine W_cond_f (by rfl) ?_
        | refine W_load_box 0 TOk (by rfl) (by rfl) (by rfl) (by rfl) (by rfl) ?_
        | refine W_load_boxN 0 TOk (by rfl) (by rfl) (by rfl) (by rfl) (by rfl) ?_
        | (refine W_store_box 0 TOk (by rfl) (by rfl) (by rfl) (by rfl) (by rfl) (by rfl) ?_; dsimp only [setL, putL, vcells])
      simp only [Int.toNat_natCast, Int.toNat_zero, Nat.sub_zero]
      have hcut : ∀ w1, Below w.heap.size w w1 → Cells w1 (cutA B 0 cB 1) (i64s ((rw_ ss q).take ln)) := fun w1 hb => by
        have := (hR.below hb).cut64 0 ln cB (by omega)
        simpa using this
      have hl2 : ((rw_ ss q).take ln).length = ln := by rw [List.length_take]; omega
      have hp2 : ∀ x ∈ (rw_ ss q).take ln, 0 ≤ x := fun x hx => k2 x (List.mem_of_mem_take hx)
      have hbt := bsum_take_le k2 ln
      refine W_loop (ι := Nat) (fun j => [(37, .slice (cutA B 0 cB 1) ln cB), (38, .int .i64 (ln : Nat)), (39, .int .i64 (j : Nat)), (1, .int .i64 (ln : Nat)), (8, .pointer (some ⟨b2, 0, none⟩)), (6, .int .i64 (bsum (ss.take q).flatten + bsum (((rw_ ss q).take ln).take j)))])
        (fun _ => [box b2 233 [.slice B (rw_ ss q).length cB, .int .i64 (bsum (rw_ ss q))]]) (fun j => j ≤ ln) (fun j => ln - j) 0 (by omega) ⟨rfl, rfl, rfl, rfl, rfl, by simp [bsum]; rfl, trivial⟩ (Ent.refl _) ?_
      intro j hj
      have hbj := bsum_take_le hp2 j
      repeat first
        | refine W_seq ?_
        | refine W_skip ?_
        | refine W_block ?_
        | refine W_blk ?_
        | refine W_exit (by rfl) ?_
        | refine W_region (by rfl) ?_
        | refine W_opsnil ?_
        | refine W_pure TOk (by rfl) (by first | trivial | (simp only [okI, and_true, true_and, and_self] <;> omega)) ?_
        | refine W_on (by rfl) (by rfl) (by rfl) ?_
        | refine W_off (by rfl) (by rfl) (by rfl) (by rfl) (by rfl) ?_
        | refine W_offU (by rfl) (by rfl) (by rfl) (by rfl) ?_
        | refine W_cond_t (by rfl) ?_
        | refine W_cond_f (by rfl) ?_
      refine W_cond_d (by rfl) (fun hjl => ?_) (fun hjg => ?_)
      · have htj := take_snoc_rd (xs := (rw_ ss q).take ln) (k := j) (by omega)
        have hbj1 := bsum_take_le hp2 (j + 1)
        have hbe := bsum_snoc (((rw_ ss q).take ln).take j) (rd ((rw_ ss q).take ln) j)
        rw [← htj] at hbe
        have hrdp : 0 ≤ rd ((rw_ ss q).take ln) j := by
          refine hp2 _ ?_
          have := rd_get (xs := (rw_ ss q).take ln) (i := (j : Int)) (by omega) (by omega)
          exact List.mem_of_getElem? this
        repeat first
          | refine W_seq ?_
          | refine W_skip ?_
          | refine W_block ?_
          | refine W_blk ?_
          | refine W_exit (by rfl) ?_
          | refine W_region (by rfl) ?_
          | refine W_opsnil ?_
          | refine W_pure TOk (by rfl) (by first | trivial | (simp only [okI, and_true, true_and, and_self] <;> omega)) ?_
          | refine W_on (by rfl) (by rfl) (by rfl) ?_
          | refine W_off (by rfl) (by rfl) (by rfl) (by rfl) (by rfl) ?_
          | refine W_offU (by rfl) (by rfl) (by rfl) (by rfl) ?_
          | refine W_cond_t (by rfl) ?_
          | refine W_cond_f (by rfl) ?_
        refine W_index TOk (by rfl) (by rfl) (by rfl) (by first | exact es48 | exact es22 | exact es136 | exact es150 | exact es223 | exact es29 | exact es132 | exact es207) (by omega) (by omega) (fun w1 hw => (hcut w1 hw.below).isSome (by rw [i64s_length]; omega)) ?_
        refine W_load TOk (by rfl) (by rfl) (by rfl) (fun w1 hw => (hcut w1 hw.below).elem1 (i64s_get (by omega) (by omega))) ?_
        repeat first
          | refine W_seq ?_
          | refine W_skip ?_
          | refine W_block ?_
          | refine W_blk ?_
          | refine W_exit (by rfl) ?_
          | refine W_region (by rfl) ?_
          | refine W_opsnil ?_
          | refine W_pure TOk (by rfl) (by first | trivial | (simp only [okI, and_true, true_and, and_self] <;> omega)) ?_
          | refine W_on (by rfl) (by rfl) (by rfl) ?_
          | refine W_off (by rfl) (by rfl) (by rfl) (by rfl) (by rfl) ?_
          | refine W_offU (by rfl) (by rfl) (by rfl) (by rfl) ?_
          | refine W_cond_t (by rfl) ?_
          | refine W_cond_f (by rfl) ?_
          | refine W_load_box 0 TOk (by rfl) (by rfl) (by rfl) (by rfl) (by rfl) ?_
          | refine W_load_boxN 0 TOk (by rfl) (by rfl) (by rfl) (by rfl) (by rfl) ?_
          | (refine W_store_box 0 TOk (by rfl) (by rfl) (by rfl) (by rfl) (by rfl) (by rfl) ?_; dsimp only [setL, putL, vcells])
        refine W_inv (j + 1) (by omega) (by omega) ⟨rfl, rfl, rfl, rfl, rfl, ?_, trivial⟩ (Ent.refl _)
        rw [hbe]
        show some (Value.int _ _) = some (Value.int _ _)
        congr 2; omega
      · have ej : j = ln := by omega
        subst ej
        rw [List.take_of_length_le (Nat.le_of_eq hl2)]
        repeat first
          | refine W_seq ?_
          | refine W_skip ?_
          | refine W_block ?_
          | refine W_blk ?_
          | refine W_exit (by rfl) ?_
          | refine W_region (by rfl) ?_
          | refine W_opsnil ?_
          | refine W_pure TOk (by rfl) (by first | trivial | (simp only [okI, and_true, true_and, and_self] <;> omega)) ?_
          | refine W_on (by rfl) (by rfl) (by rfl) ?_
          | refine W_off (by rfl) (by rfl) (by rfl) (by rfl) (by rfl) ?_
          | refine W_offU (by rfl) (by rfl) (by rfl) (by rfl) ?_
          | refine W_cond_t (by rfl) ?_
          | refine W_cond_f (by rfl) ?_
          | refine W_load_box 0 TOk (by rfl) (by rfl) (by rfl) (by rfl) (by rfl) ?_
          | refine W_load_boxN 0 TOk (by rfl) (by rfl) (by rfl) (by rfl) (by rfl) ?_
          | (refine W_store_box 0 TOk (by rfl) (by rfl) (by rfl) (by rfl) (by rfl) (by rfl) ?_; dsimp only [setL, putL, vcells])
        refine W_draw (fun w1 => St _ _ w1 _) [] [(0, 0), (1, 0), (2, 0), (3, 0), (4, 0), (5, 0), (6, 0), (7, 0)] (by kernel_rfl) (fun _ h => h) (by rfl) (by kernel_rfl) (fun hB => ?_)
        repeat first
          | refine D_pure TOk (by kernel_rfl) hB (by rfl) (by rfl) (by first | trivial | (simp only [okI, and_true, true_and, and_self] <;> omega)) (fun hB => ?_)
          | refine D_done hB ?_
          | refine D_shown (fun _ h => h) ?_
          | refine D_shown (fun _ h => h.ent (Ent.drop1 _ _)) ?_
          | refine D_load_box 0 TOk (by kernel_rfl) hB (by rfl) (by rfl) (by rfl) (by rfl) (by rfl) (fun _ h => h) (by rfl) (by rfl) (fun hB => ?_)
          | refine D_load_boxN 0 TOk (by kernel_rfl) hB (by rfl) (by rfl) (by rfl) (by rfl) (by rfl) (by rfl) (fun _ h => h) (by rfl) (fun hB => ?_)
        refine D_index TOk (by kernel_rfl) hB (by rfl) (by rfl) (fun _ h => h) (fun _ h => h) (by rfl) (by rfl) (by rfl) (by first | exact es48 | exact es22 | exact es136 | exact es150 | exact es223 | exact es29 | exact es132 | exact es207) (by omega) (by omega) (fun w1 hw => (hR.below hw.below).isSome (by rw [i64s_length]; omega)) (fun hB => ?_)
        refine D_load TOk (by kernel_rfl) hB (by rfl) (by rfl) (fun _ h => h) (fun _ h => h) (by rfl) (by rfl) (by rfl) (fun w1 hw => (hR.below hw.below).elem1 (i64s_get (by omega) (by omega))) (fun hB => ?_)
        repeat first
          | refine D_pure TOk (by kernel_rfl) hB (by rfl) (by rfl) (by first | trivial | (simp only [okI, and_true, true_and, and_self] <;> omega)) (fun hB => ?_)
          | refine D_done hB ?_
          | refine D_shown (fun _ h => h) ?_
          | refine D_shown (fun _ h => h.ent (Ent.drop1 _ _)) ?_
          | refine D_load_box 0 TOk (by kernel_rfl) hB (by rfl) (by rfl) (by rfl) (by rfl) (by rfl) (fun _ h => h) (by rfl) (by rfl) (fun hB => ?_)
          | refine D_load_boxN 0 TOk (by kernel_rfl) hB (by rfl) (by rfl) (by rfl) (by rfl) (by rfl) (by rfl) (fun _ h => h) (by rfl) (fun hB => ?_)
        repeat first
          | refine W_seq ?_
          | refine W_skip ?_
          | refine W_block ?_
          | refine W_blk ?_
          | refine W_exit (by rfl) ?_
          | refine W_region (by rfl) ?_
          | refine W_opsnil ?_
          | refine W_pure TOk (by rfl) (by first | trivial | (simp only [okI, and_true, true_and, and_self] <;> omega)) ?_
          | refine W_on (by rfl) (by rfl) (by rfl) ?_
          | refine W_off (by rfl) (by rfl) (by rfl) (by rfl) (by rfl) ?_
          | refine W_offU (by rfl) (by rfl) (by rfl) (by rfl) ?_
          | refine W_cond_t (by rfl) ?_
          | refine W_cond_f (by rfl) ?_
        refine W_retF (vs := [_, _]) ⟨rfl, rfl, trivial⟩ (Ent.nil _) ⟨?_, rfl⟩
        have hit : i.toNat = (ss.take q).flatten.length + j := by omega
        have hbig := hok.blk (q := q) (by omega)
        have e2 := flat_split ss (q + 1)
        rw [e] at e2
        have e3 : ss.flatten.take i.toNat = (ss.take q).flatten ++ (rw_ ss q).take j := by
          rw [e2, hit, List.append_assoc, List.take_append, List.take_of_length_le (by omega), Nat.add_sub_cancel_left, List.take_append_of_le_length (by omega)]
        have e4 : rd ss.flatten i = rd (rw_ ss q) j := by
          unfold rd
          rw [hit, e2, List.append_assoc, List.getD_eq_getElem?_getD, List.getD_eq_getElem?_getD, List.getElem?_append_right (by omega), Nat.add_sub_cancel_left, show ((j : Int)).toNat = j by omega, List.getElem?_append_left (by omega)]
        rw [e3, e4, bsum_append]; rfl
  · repeat first
      | refine W_seq ?_
      | refine W_skip ?_
      | refine W_block ?_
      | refine W_blk ?_
      | refine W_exit (by rfl) ?_
      | refine W_region (by rfl) ?_
      | refine W_opsnil ?_
      | refine W_pure TOk (by rfl) (by first | trivial | (simp only [okI, and_true, true_and, and_self] <;> omega)) ?_
      | refine W_on (by rfl) (by rfl) (by rfl) ?_
      | refine W_off (by rfl) (by rfl) (by rfl) (by rfl) (by rfl) ?_
      | refine W_offU (by rfl) (by rfl) (by rfl) (by rfl) ?_
      | refine W_cond_t (by rfl) ?_
      | refine W_cond_f (by rfl) ?_
    have e : q = ss.length := by omega
    subst e
    rw [List.take_length] at hpre ⊢
    refine W_retF (vs := [_, _]) ⟨rfl, rfl, trivial⟩ (Ent.refl _) ⟨?_, rfl⟩
    rw [List.take_of_length_le (by omega)]
    have : rd ss.flatten i = 0 := by
      unfold rd
      rw [List.getD_eq_getElem?_getD, List.getElem?_eq_none (by omega)]; rfl
    rw [this]; rfl

set_option maxHeartbeats 1000000 in
theorem find_c (w : World) (b : Nat) (A : Option Addr) (c : Nat) (ss : List (List Int)) (n : Int) (hcell : w.cell? ⟨b, 1, none⟩ = some (.slice A ss.length c)) (hbl : BlocksAt w A ss) (hok : IxOk ss) (h0 : 0 ≤ n) (hi : n ≤ 1099511627776) :
    Val Try.prog 109 [.pointer (some ⟨b, 1, none⟩), .int .i64 n] w (.tuple #[.int .i64 (findS ss.flatten n).1, .int .i64 (findS ss.flatten n).2]) := by
  refine enterF Try.func109 rfl Try.ntmps109 rfl rfl ?_
  have hbnd := hok.len
  repeat first
    | refine W_seq ?_
    | refine W_skip ?_
    | refine W_block ?_
    | refine W_blk ?_
    | refine W_exit (by rfl) ?_
    | refine W_region (by rfl) ?_
    | refine W_opsnil ?_
    | refine W_pure TOk (by rfl) (by first | trivial | (simp only [okI, and_true, true_and, and_self] <;> omega)) ?_
    | refine W_on (by rfl) (by rfl) (by rfl) ?_
    | refine W_off (by rfl) (by rfl) (by rfl) (by rfl) (by rfl) ?_
    | refine W_offU (by rfl) (by rfl) (by rfl) (by rfl) ?_
    | refine W_cond_t (by rfl) ?_
    | refine W_cond_f (by rfl) ?_
  refine W_load TOk (by rfl) (by rfl) (by rfl) (fun w1 hw => ⟨_, rfl, (hw.below.cell (World.block_lt_of_cell? w _ hcell)).trans hcell⟩) ?_
  repeat first
    | refine W_seq ?_
    | refine W_skip ?_
    | refine W_block ?_
    | refine W_blk ?_
    | refine W_exit (by rfl) ?_
    | refine W_region (by rfl) ?_
    | refine W_opsnil ?_
    | refine W_pure TOk (by rfl) (by first | trivial | (simp only [okI, and_true, true_and, and_self] <;> omega)) ?_
    | refine W_on (by rfl) (by rfl) (by rfl) ?_
    | refine W_off (by rfl) (by rfl) (by rfl) (by rfl) (by rfl) ?_
    | refine W_offU (by rfl) (by rfl) (by rfl) (by rfl) ?_
    | refine W_cond_t (by rfl) ?_
    | refine W_cond_f (by rfl) ?_
  refine W_loop (ι := Nat × Int × Int) (fun q => [(14, .slice A ss.length c), (15, .int .i64 (ss.length : Nat)), (16, .int .i64 (q.1 : Nat)), (1, .int .i64 q.2.1), (6, .int .i64 q.2.2)]) (fun _ => [])
    (fun q => q.1 ≤ ss.length ∧ 0 ≤ q.2.1 ∧ q.2.1 ≤ n ∧ 0 ≤ q.2.2 ∧ q.2.2 ≤ (ss.take q.1).flatten.length ∧ findS ss.flatten n = ((findS (ss.drop q.1).flatten q.2.1).1 + q.2.2, (findS (ss.drop q.1).flatten q.2.1).2)) (fun q => ss.length - q.1) (0, n, 0)
    ⟨by dsimp only; omega, h0, by simp, by simp, by simp, by simp⟩ ⟨rfl, rfl, rfl, rfl, rfl, trivial⟩ (Ent.refl _) ?_
  rintro ⟨q, nq, lq⟩ ⟨hq, hn0, hn1, hl0, hl1, hf⟩
  dsimp only at hq hn0 hn1 hl0 hl1 hf ⊢
  repeat first
    | refine W_seq ?_
    | refine W_skip ?_
    | refine W_block ?_
    | refine W_blk ?_
    | refine W_exit (by rfl) ?_
    | refine W_region (by rfl) ?_
    | refine W_opsnil ?_
    | refine W_pure TOk (by rfl) (by first | trivial | (simp only [okI, and_true, true_and, and_self] <;> omega)) ?_
    | refine W_on (by rfl) (by rfl) (by rfl) ?_
    | refine W_off (by rfl) (by rfl) (by rfl) (by rfl) (by rfl) ?_
    | refine W_offU (by rfl) (by rfl) (by rfl) (by rfl) ?_
    | refine W_cond_t (by rfl) ?_
    | refine W_cond_f (by rfl) ?_
  refine W_cond_d (by rfl) (fun hlt => ?_) (fun hge => ?_)
  · obtain ⟨B, cB, hcB, hR, hvs⟩ := hbl.blk (q := q) (by omega)
    obtain ⟨k1, k2, k3, k4, k5, k6⟩ := hok.blk (q := q) (by omega)
    have hg := rw_get (xss := ss) (i := (q : Int)) (by omega) (by omega)
    rw [show ((q : Int)).toNat = q by omega] at hg
    have e := flat_take_succ hg
    have e2 := flat_drop hg
    repeat first
      | refine W_seq ?_
      | refine W_skip ?_
      | refine W_block ?_
      | refine W_blk ?_
      | refine W_exit (by rfl) ?_
      | refine W_region (by rfl) ?_
      | refine W_opsnil ?_
      | refine W_pure TOk (by rfl) (by first | trivial | (simp only [okI, and_true, true_and, and_self] <;> omega)) ?_
      | refine W_on (by rfl) (by rfl) (by rfl) ?_
      | refine W_off (by rfl) (by rfl) (by rfl) (by rfl) (by rfl) ?_
      | refine W_offU (by rfl) (by rfl) (by rfl) (by rfl) ?_
      | refine W_cond_t (by rfl) ?_
      | refine W_cond_f (by rfl) ?_
    refine W_index TOk (by rfl) (by rfl) (by rfl) (by first | exact es48 | exact es22 | exact es136 | exact es150 | exact es223 | exact es29 | exact es132 | exact es207) (by omega) (by omega) (fun w1 hw => (hbl.below hw.below).isSome (by omega)) ?_
    refine W_loadN TOk (cs := [_, _]) (by rfl) (by rfl) (by rfl) (fun w1 hw => hvs w1 hw.below) ?_
    refine W_alloc (cs := [_, _]) TOk (by rfl) (by rfl) (fun b2 => ?_)
    repeat first
      | refine W_seq ?_
      | refine W_skip ?_
      | refine W_block ?_
      | refine W_blk ?_
      | refine W_exit (by rfl) ?_
      | refine W_region (by rfl) ?_
      | refine W_opsnil ?_
      | refine W_pure TOk (by rfl) (by first | trivial | (simp only [okI, and_true, true_and, and_self] <;> omega)) ?_
      | refine W_on (by rfl) (by rfl) (by rfl) ?_
      | refine W_off (by rfl) (by rfl) (by rfl) (by rfl) (by rfl) ?_
      | refine W_offU (by rfl) (by rfl) (by rfl) (by rfl) ?_
      | refine W_cond_t (by rfl) ?_
      | refine W_cond_f (by rfl) ?_
      | refine W_load_box 0 TOk (by rfl) (by rfl) (by rfl) (by rfl) (by rfl) ?_
      | refine W_load_boxN 0 TOk (by rfl) (by rfl) (by rfl) (by rfl) (by rfl) ?_
      | (refine W_store_box 0 TOk (by rfl) (by rfl) (by rfl) (by rfl) (by rfl) (by rfl) ?_; dsimp only [setL, putL, vcells])
    refine W_cond_d (by rfl) (fun hge2 => ?_) (fun hlt2 => ?_)
    · repeat first
        | refine W_seq ?_
        | refine W_skip ?_
        | refine W_block ?_
        | refine W_blk ?_
        | refine W_exit (by rfl) ?_
        | refine W_region (by rfl) ?_
        | refine W_opsnil ?_
        | refine W_pure TOk (by rfl) (by first | trivial | (simp only [okI, and_true, true_and, and_self] <;> omega)) ?_
        | refine W_on (by rfl) (by rfl) (by rfl) ?_
        | refine W_off (by rfl) (by rfl) (by rfl) (by rfl) (by rfl) ?_
        | refine W_offU (by rfl) (by rfl) (by rfl) (by rfl) ?_
        | refine W_cond_t (by rfl) ?_
        | refine W_cond_f (by rfl) ?_
        | refine W_load_box 0 TOk (by rfl) (by rfl) (by rfl) (by rfl) (by rfl) ?_
        | refine W_load_boxN 0 TOk (by rfl) (by rfl) (by rfl) (by rfl) (by rfl) ?_
        | (refine W_store_box 0 TOk (by rfl) (by rfl) (by rfl) (by rfl) (by rfl) (by rfl) ?_; dsimp only [setL, putL, vcells])
      have hsk := findS_skip (rw_ ss q) (ss.drop (q + 1)).flatten nq k2 hge2
      rw [← e2] at hsk
      refine W_inv (q + 1, nq - bsum (rw_ ss q), lq + (rw_ ss q).length) ⟨by dsimp only; omega, by dsimp only; omega, by dsimp only; omega, by dsimp only; omega, by dsimp only; rw [e, List.length_append]; omega, ?_⟩ (by dsimp only; omega) ⟨rfl, rfl, rfl, rfl, rfl, trivial⟩ (Ent.nil _)
      dsimp only
      rw [hf, hsk]
      dsimp only
      congr 1
      omega
    · repeat first
        | refine W_seq ?_
        | refine W_skip ?_
        | refine W_block ?_
        | refine W_blk ?_
        | refine W_exit (by rfl) ?_
        | refine W_region (by rfl) ?_
        | refine W_opsnil ?_
        | refine W_pure TOk (by rfl) (by first | trivial | (simp only [okI, and_true, true_and, and_self] <;> omega)) ?_
        | refine W_on (by rfl) (by rfl) (by rfl) ?_
        | refine W_off (by rfl) (by rfl) (by rfl) (by rfl) (by rfl) ?_
        | refine W_offU (by rfl) (by rfl) (by rfl) (by rfl) ?_
        | refine W_cond_t (by rfl) ?_
        | refine W_cond_f (by rfl) ?_
        | refine W_load_box 0 TOk (by rfl) (by rfl) (by rfl) (by rfl) (by rfl) ?_
        | refine W_load_boxN 0 TOk (by rfl) (by rfl) (by rfl) (by rfl) (by rfl) ?_
        | (refine W_store_box 0 TOk (by rfl) (by rfl) (by rfl) (by rfl) (by rfl) (by rfl) ?_; dsimp only [setL, putL, vcells])
      refine W_loop (ι := Nat × Int) (fun p => [(34, .slice B (rw_ ss q).length cB), (35, .int .i64 ((rw_ ss q).length : Nat)), (36, .int .i64 (p.1 : Nat)), (1, .int .i64 p.2), (6, .int .i64 (lq + (p.1 : Nat))), (14, .slice A ss.length c), (15, .int .i64 (ss.length : Nat)), (16, .int .i64 (q : Nat))])
        (fun _ => []) (fun p => p.1 ≤ (rw_ ss q).length ∧ 0 ≤ p.2 ∧ p.2 ≤ n ∧ findS ss.flatten n = ((findS ((rw_ ss q).drop p.1 ++ (ss.drop (q + 1)).flatten) p.2).1 + (lq + (p.1 : Nat)), (findS ((rw_ ss q).drop p.1 ++ (ss.drop (q + 1)).flatten) p.2).2)) (fun p => (rw_ ss q).length - p.1) (0, nq)
        ⟨by dsimp only; omega, hn0, hn1, by dsimp only; rw [hf, e2]; simp⟩ ⟨rfl, rfl, rfl, rfl, by simp; rfl, rfl, rfl, rfl, trivial⟩ (Ent.nil _) ?_
      rintro ⟨j, nj⟩ ⟨hj, hj0, hj1, hjf⟩
      dsimp only at hj hj0 hj1 hjf ⊢
      repeat first
        | refine W_seq ?_
        | refine W_skip ?_
        | refine W_block ?_
        | refine W_blk ?_
        | refine W_exit (by rfl) ?_
        | refine W_region (by rfl) ?_
        | refine W_opsnil ?_
        | refine W_pure TOk (by rfl) (by first | trivial | (simp only [okI, and_true, true_and, and_self] <;> omega)) ?_
        | refine W_on (by rfl) (by rfl) (by rfl) ?_
        | refine W_off (by rfl) (by rfl) (by rfl) (by rfl) (by rfl) ?_
        | refine W_offU (by rfl) (by rfl) (by rfl) (by rfl) ?_
        | refine W_cond_t (by rfl) ?_
        | refine W_cond_f (by rfl) ?_
      refine W_cond_d (by rfl) (fun hjl => ?_) (fun hjg => ?_)
      · have hdj : (rw_ ss q).drop j = rd (rw_ ss q) j :: (rw_ ss q).drop (j + 1) := by
          have := rd_get (xs := rw_ ss q) (i := (j : Int)) (by omega) (by omega)
          rw [show ((j : Int)).toNat = j by omega] at this
          rw [List.drop_eq_getElem_cons (by omega)]
          congr 1
          exact (List.getElem?_eq_some_iff.1 this).2
        have hrdp : 0 ≤ rd (rw_ ss q) j := by
          refine k2 _ ?_
          have := rd_get (xs := rw_ ss q) (i := (j : Int)) (by omega) (by omega)
          exact List.mem_of_getElem? this
        have hrd2 : rd (rw_ ss q) j + 1 ≤ bsum (rw_ ss q) := by
          have h1 := bsum_take_le k2 (j + 1)
          have h2 := bsum_snoc ((rw_ ss q).take j) (rd (rw_ ss q) j)
          rw [← take_snoc_rd (by omega)] at h2
          have h3 := (bsum_take_le k2 j).1
          omega
        repeat first
          | refine W_seq ?_
          | refine W_skip ?_
          | refine W_block ?_
          | refine W_blk ?_
          | refine W_exit (by rfl) ?_
          | refine W_region (by rfl) ?_
          | refine W_opsnil ?_
          | refine W_pure TOk (by rfl) (by first | trivial | (simp only [okI, and_true, true_and, and_self] <;> omega)) ?_
          | refine W_on (by rfl) (by rfl) (by rfl) ?_
          | refine W_off (by rfl) (by rfl) (by rfl) (by rfl) (by rfl) ?_
          | refine W_offU (by rfl) (by rfl) (by rfl) (by rfl) ?_
          | refine W_cond_t (by rfl) ?_
          | refine W_cond_f (by rfl) ?_
        refine W_index TOk (by rfl) (by rfl) (by rfl) (by first | exact es48 | exact es22 | exact es136 | exact es150 | exact es223 | exact es29 | exact es132 | exact es207) (by omega) (by omega) (fun w1 hw => (hR.below hw.below).isSome (by rw [i64s_length]; omega)) ?_
        refine W_load TOk (by rfl) (by rfl) (by rfl) (fun w1 hw => (hR.below hw.below).elem1 (i64s_get (by omega) (by omega))) ?_
        repeat first
          | refine W_seq ?_
          | refine W_skip ?_
          | refine W_block ?_
          | refine W_blk ?_
          | refine W_exit (by rfl) ?_
          | refine W_region (by rfl) ?_
          | refine W_opsnil ?_
          | refine W_pure TOk (by rfl) (by first | trivial | (simp only [okI, and_true, true_and, and_self] <;> omega)) ?_
          | refine W_on (by rfl) (by rfl) (by rfl) ?_
          | refine W_off (by rfl) (by rfl) (by rfl) (by rfl) (by rfl) ?_
          | refine W_offU (by rfl) (by rfl) (by rfl) (by rfl) ?_
          | refine W_cond_t (by rfl) ?_
          | refine W_cond_f (by rfl) ?_
        refine W_cond_d (by rfl) (fun hle => ?_) (fun hgt => ?_)
        · repeat first
            | refine W_seq ?_
            | refine W_skip ?_
            | refine W_block ?_
            | refine W_blk ?_
            | refine W_exit (by rfl) ?_
            | refine W_region (by rfl) ?_
            | refine W_opsnil ?_
            | refine W_pure TOk (by rfl) (by first | trivial | (simp only [okI, and_true, true_and, and_self] <;> omega)) ?_
            | refine W_on (by rfl) (by rfl) (by rfl) ?_
            | refine W_off (by rfl) (by rfl) (by rfl) (by rfl) (by rfl) ?_
            | refine W_offU (by rfl) (by rfl) (by rfl) (by rfl) ?_
            | refine W_cond_t (by rfl) ?_
            | refine W_cond_f (by rfl) ?_
          refine W_retF (vs := [_, _]) ⟨rfl, rfl, trivial⟩ (Ent.nil _) ⟨?_, rfl⟩
          rw [hjf, hdj]
          simp only [List.cons_append, findS]
          rw [if_pos hle]
          simp only [Int.zero_add]
          rfl
        · repeat first
            | refine W_seq ?_
            | refine W_skip ?_
            | refine W_block ?_
            | refine W_blk ?_
            | refine W_exit (by rfl) ?_
            | refine W_region (by rfl) ?_
            | refine W_opsnil ?_
            | refine W_pure TOk (by rfl) (by first | trivial | (simp only [okI, and_true, true_and, and_self] <;> omega)) ?_
            | refine W_on (by rfl) (by rfl) (by rfl) ?_
            | refine W_off (by rfl) (by rfl) (by rfl) (by rfl) (by rfl) ?_
            | refine W_offU (by rfl) (by rfl) (by rfl) (by rfl) ?_
            | refine W_cond_t (by rfl) ?_
            | refine W_cond_f (by rfl) ?_
          refine W_inv (j + 1, nj - (rd (rw_ ss q) j + 1)) ⟨by dsimp only; omega, by dsimp only; omega, by dsimp only; omega, ?_⟩ (by dsimp only; omega) ⟨rfl, rfl, rfl, rfl, ?_, rfl, rfl, rfl, trivial⟩ (Ent.refl _)
          · dsimp only
            rw [hjf, hdj]
            simp only [List.cons_append, findS]
            rw [if_neg hgt]
            dsimp only
            congr 1
            omega
          · dsimp only
            show some (Value.int _ _) = some (Value.int _ _)
            congr 2; omega
      · repeat first
          | refine W_seq ?_
          | refine W_skip ?_
          | refine W_block ?_
          | refine W_blk ?_
          | refine W_exit (by rfl) ?_
          | refine W_region (by rfl) ?_
          | refine W_opsnil ?_
          | refine W_pure TOk (by rfl) (by first | trivial | (simp only [okI, and_true, true_and, and_self] <;> omega)) ?_
          | refine W_on (by rfl) (by rfl) (by rfl) ?_
          | refine W_off (by rfl) (by rfl) (by rfl) (by rfl) (by rfl) ?_
          | refine W_offU (by rfl) (by rfl) (by rfl) (by rfl) ?_
          | refine W_cond_t (by rfl) ?_
          | refine W_cond_f (by rfl) ?_
        have ej : j = (rw_ ss q).length := by omega
        subst ej
        refine W_inv (q + 1, nj, lq + (rw_ ss q).length) ⟨by dsimp only; omega, hj0, hj1, by dsimp only; omega, by dsimp only; rw [e, List.length_append]; omega, ?_⟩ (by dsimp only; omega) ⟨rfl, rfl, rfl, rfl, rfl, trivial⟩ (Ent.nil _)
        dsimp only
        rw [hjf, List.drop_length, List.nil_append]
  · repeat first
      | refine W_seq ?_
      | refine W_skip ?_
      | refine W_block ?_
      | refine W_blk ?_
      | refine W_exit (by rfl) ?_
      | refine W_region (by rfl) ?_
      | refine W_opsnil ?_
      | refine W_pure TOk (by rfl) (by first | trivial | (simp only [okI, and_true, true_and, and_self] <;> omega)) ?_
      | refine W_on (by rfl) (by rfl) (by rfl) ?_
      | refine W_off (by rfl) (by rfl) (by rfl) (by rfl) (by rfl) ?_
      | refine W_offU (by rfl) (by rfl) (by rfl) (by rfl) ?_
      | refine W_cond_t (by rfl) ?_
      | refine W_cond_f (by rfl) ?_
    have e : q = ss.length := by omega
    subst e
    refine W_retF (vs := [_, _]) ⟨rfl, rfl, trivial⟩ (Ent.refl _) ⟨?_, rfl⟩
    rw [hf, List.drop_length]
    simp only [List.flatten_nil, findS, Int.zero_add]
    rfl
end Go.Proofs.Ytdfibmbedjpcgaa
