/- The index: which block has a line; its lines turned. -/
import Derived.Test.YtdfibmbedjpcgaaS2
set_option linter.unusedVariables false
set_option linter.unusedSimpArgs false
namespace Go.Proofs.Ytdfibmbedjpcgaa
open Go Go.RowKit Eng Ls

theorem W_know {X : Cx} {k : List It} {F : Fr} {L : List Ast} {p : Prop} (h1 : ∀ w, St X.B X.w0 w L → p) (h2 : p → W X k F L) : W X k F L := fun a w ha hw => h2 (h1 w hw) a w ha hw
attribute [local irreducible] Eng.W

set_option maxHeartbeats 1000000 in
theorem block_c (w : World) (b : Nat) (A : Option Addr) (c : Nat) (ss : List (List Int)) (i : Nat) (hcell : w.cell? ⟨b, 1, none⟩ = some (.slice A ss.length c)) (hbl : BlocksAt w A ss) (hok : IxOk ss) (hi : i < ss.flatten.length) :
    Fresh Try.prog 210 [.pointer (some ⟨b, 1, none⟩), .int .i64 (i : Nat)] w (fun v M => ∃ q r : Nat, v = .tuple #[.int .i64 (q : Nat), .int .i64 (r : Nat)] ∧ M = [] ∧ q < ss.length ∧ r < (rw_ ss q).length ∧ (ss.take q).flatten.length + r = i) := by
  have hbnd := hok.len
  have hbnd2 := hok.flen
  refine enterF Try.func210 rfl Try.ntmps210 rfl rfl ?_
  repeat first
    | refine W_seq ?_
    | refine W_skip ?_
    | refine W_block ?_
    | refine W_blk ?_
    | refine W_exit (by rfl) ?_
    | refine W_region (by rfl) ?_
    | refine W_opsnil ?_
    | refine W_pure TOk (by rfl) (by first | trivial | (simp only [okI, and_true, true_and, and_self] <;> omega)) ?_
    | refine W_on (by rfl) (by rfl) (by rfl) ?_
    | refine W_off (by rfl) (by rfl) (by rfl) (by rfl) (by rfl) ?_
    | refine W_offU (by rfl) (by rfl) (by rfl) (by rfl) ?_
    | refine W_cond_t (by rfl) ?_
    | refine W_cond_f (by rfl) ?_
  refine W_load TOk (by rfl) (by rfl) (by rfl) (fun w1 hw => ⟨_, rfl, (hw.below.cell (World.block_lt_of_cell? w _ hcell)).trans hcell⟩) ?_
  repeat first
    | refine W_seq ?_
    | refine W_skip ?_
    | refine W_block ?_
    | refine W_blk ?_
    | refine W_exit (by rfl) ?_
    | refine W_region (by rfl) ?_
    | refine W_opsnil ?_
    | refine W_pure TOk (by rfl) (by first | trivial | (simp only [okI, and_true, true_and, and_self] <;> omega)) ?_
    | refine W_on (by rfl) (by rfl) (by rfl) ?_
    | refine W_off (by rfl) (by rfl) (by rfl) (by rfl) (by rfl) ?_
    | refine W_offU (by rfl) (by rfl) (by rfl) (by rfl) ?_
    | refine W_cond_t (by rfl) ?_
    | refine W_cond_f (by rfl) ?_
  refine W_loop (ι := Nat) (fun q => [(11, .slice A ss.length c), (12, .int .i64 (ss.length : Nat)), (13, .int .i64 (q : Nat)), (1, .int .i64 ((i - (ss.take q).flatten.length : Nat) : Nat))]) (fun _ => [])
    (fun q => q ≤ ss.length ∧ (ss.take q).flatten.length ≤ i) (fun q => ss.length - q) 0 ⟨by omega, by simp⟩ ⟨rfl, rfl, rfl, by simp; rfl, trivial⟩ (Ent.refl _) ?_
  rintro q ⟨hq, hpre⟩
  repeat first
    | refine W_seq ?_
    | refine W_skip ?_
    | refine W_block ?_
    | refine W_blk ?_
    | refine W_exit (by rfl) ?_
    | refine W_region (by rfl) ?_
    | refine W_opsnil ?_
    | refine W_pure TOk (by rfl) (by first | trivial | (simp only [okI, and_true, true_and, and_self] <;> omega)) ?_
    | refine W_on (by rfl) (by rfl) (by rfl) ?_
    | refine W_off (by rfl) (by rfl) (by rfl) (by rfl) (by rfl) ?_
    | refine W_offU (by rfl) (by rfl) (by rfl) (by rfl) ?_
    | refine W_cond_t (by rfl) ?_
    | refine W_cond_f (by rfl) ?_
  refine W_cond_d (by rfl) (fun hlt => ?_) (fun hge => ?_)
  · obtain ⟨B, cB, hcB, hR, hvs⟩ := hbl.blk (q := q) (by omega)
    obtain ⟨k1, k2, k3, k4, k5, k6⟩ := hok.blk (q := q) (by omega)
    have hg := rw_get (xss := ss) (i := (q : Int)) (by omega) (by omega)
    rw [show ((q : Int)).toNat = q by omega] at hg
    have e := flat_take_succ hg
    repeat first
      | refine W_seq ?_
      | refine W_skip ?_
      | refine W_block ?_
      | refine W_blk ?_
      | refine W_exit (by rfl) ?_
      | refine W_region (by rfl) ?_
      | refine W_opsnil ?_
      | refine W_pure TOk (by rfl) (by first | trivial | (simp only [okI, and_true, true_and, and_self] <;> omega)) ?_
      | refine W_on (by rfl) (by rfl) (by rfl) ?_
      | refine W_off (by rfl) (by rfl) (by rfl) (by rfl) (by rfl) ?_
      | refine W_offU (by rfl) (by rfl) (by rfl) (by rfl) ?_
      | refine W_cond_t (by rfl) ?_
      | refine W_cond_f (by rfl) ?_
    refine W_index TOk (by rfl) (by rfl) (by rfl) (by first | exact es48 | exact es22 | exact es136 | exact es150 | exact es223 | exact es29 | exact es132 | exact es207) (by omega) (by omega) (fun w1 hw => (hbl.below hw.below).isSome (by omega)) ?_
    refine W_loadN TOk (cs := [_, _]) (by rfl) (by rfl) (by rfl) (fun w1 hw => hvs w1 hw.below) ?_
    refine W_alloc (cs := [_, _]) TOk (by rfl) (by rfl) (fun b2 => ?_)
    repeat first
      | refine W_seq ?_
      | refine W_skip ?_
      | refine W_block ?_
      | refine W_blk ?_
      | refine W_exit (by rfl) ?_
      | refine W_region (by rfl) ?_
      | refine W_opsnil ?_
      | refine W_pure TOk (by rfl) (by first | trivial | (simp only [okI, and_true, true_and, and_self] <;> omega)) ?_
      | refine W_on (by rfl) (by rfl) (by rfl) ?_
      | refine W_off (by rfl) (by rfl) (by rfl) (by rfl) (by rfl) ?_
      | refine W_offU (by rfl) (by rfl) (by rfl) (by rfl) ?_
      | refine W_cond_t (by rfl) ?_
      | refine W_cond_f (by rfl) ?_
      | refine W_load_box 0 TOk (by rfl) (by rfl) (by rfl) (by rfl) (by rfl) ?_
      | refine W_load_boxN 0 TOk (by rfl) (by rfl) (by rfl) (by rfl) (by rfl) ?_
      | (refine W_store_box 0 TOk (by rfl) (by rfl) (by rfl) (by rfl) (by rfl) (by rfl) ?_; dsimp only [setL, putL, vcells])
    refine W_cond_d (by rfl) (fun hlt2 => ?_) (fun hge2 => ?_)
    · repeat first
        | refine W_seq ?_
        | refine W_skip ?_
        | refine W_block ?_
        | refine W_blk ?_
        | refine W_exit (by rfl) ?_
        | refine W_region (by rfl) ?_
        | refine W_opsnil ?_
        | refine W_pure TOk (by rfl) (by first | trivial | (simp only [okI, and_true, true_and, and_self] <;> omega)) ?_
        | refine W_on (by rfl) (by rfl) (by rfl) ?_
        | refine W_off (by rfl) (by rfl) (by rfl) (by rfl) (by rfl) ?_
        | refine W_offU (by rfl) (by rfl) (by rfl) (by rfl) ?_
        | refine W_cond_t (by rfl) ?_
        | refine W_cond_f (by rfl) ?_
        | refine W_load_box 0 TOk (by rfl) (by rfl) (by rfl) (by rfl) (by rfl) ?_
        | refine W_load_boxN 0 TOk (by rfl) (by rfl) (by rfl) (by rfl) (by rfl) ?_
        | (refine W_store_box 0 TOk (by rfl) (by rfl) (by rfl) (by rfl) (by rfl) (by rfl) ?_; dsimp only [setL, putL, vcells])
      exact W_retF (vs := [_, _]) ⟨rfl, rfl, trivial⟩ (Ent.nil _) ⟨q, _, rfl, rfl, by omega, by omega, by omega⟩
    · repeat first
        | refine W_seq ?_
        | refine W_skip ?_
        | refine W_block ?_
        | refine W_blk ?_
        | refine W_exit (by rfl) ?_
        | refine W_region (by rfl) ?_
        | refine W_opsnil ?_
        | refine W_pure TOk (by rfl) (by first | trivial | (simp only [okI, and_true, true_and, and_self] <;> omega)) ?_
        | refine W_on (by rfl) (by rfl) (by rfl) ?_
        | refine W_off (by rfl) (by rfl) (by rfl) (by rfl) (by rfl) ?_
        | refine W_offU (by rfl) (by rfl) (by rfl) (by rfl) ?_
        | refine W_cond_t (by rfl) ?_
        | refine W_cond_f (by rfl) ?_
        | refine W_load_box 0 TOk (by rfl) (by rfl) (by rfl) (by rfl) (by rfl) ?_
        | refine W_load_boxN 0 TOk (by rfl) (by rfl) (by rfl) (by rfl) (by rfl) ?_
        | (refine W_store_box 0 TOk (by rfl) (by rfl) (by rfl) (by rfl) (by rfl) (by rfl) ?_; dsimp only [setL, putL, vcells])
      refine W_inv (q + 1) ⟨by omega, by rw [e, List.length_append]; omega⟩ (by omega) ⟨rfl, rfl, rfl, ?_, trivial⟩ (Ent.nil _)
      rw [e, List.length_append]
      show some (Value.int _ _) = some (Value.int _ _)
      congr 2; omega
  · have e : q = ss.length := by omega
    subst e
    rw [List.take_length] at hpre
    omega

theorem sizes_at {w : World} {vs : List Value} {ss : List (List Int)} {Q : Nat → Prop} (h : (sizesA vs ss).A w Q) (hl : vs.length = ss.length) {i : Nat} {s : List Int} (hi : ss[i]? = some s) : ∃ B c, vs[i]? = some (.slice B s.length c) ∧ s.length ≤ c ∧ c ≤ maxLen ∧ Cells w B (i64s s) := by
  have hlt : i < vs.length := by rw [hl]; exact (List.getElem?_eq_some_iff.1 hi).1
  obtain ⟨S1, g⟩ := HpS.nth i (a := intsA vs[i] s) (seps_A.1 h) (by rw [List.getElem?_zipWith, List.getElem?_eq_getElem hlt, hi])
  obtain ⟨⟨B, c'⟩, g4⟩ := exA_A.1 g
  obtain ⟨e, g5⟩ := andA_A.1 g4
  obtain ⟨k4, k5, k6⟩ := own_at g5
  exact ⟨B, c', by rw [List.getElem?_eq_getElem hlt, e], k5, k6, k4⟩
theorem Hp.sizes {B : Nat} {w : World} {L : List Ast} (h : Hp B w L) (j : Nat) {vs : List Value} {ss : List (List Int)} (hj : L[j]? = some (sizesA vs ss)) (hl : vs.length = ss.length) {i : Nat} {s : List Int} (hi : ss[i]? = some s) : ∃ B c, vs[i]? = some (.slice B s.length c) ∧ s.length ≤ c ∧ c ≤ maxLen ∧ Cells w B (i64s s) := by
  obtain ⟨S, hS, _⟩ := h.nth j hj
  exact sizes_at hS hl hi
theorem Hp.sizeCells {B : Nat} {w : World} {L : List Ast} (h : Hp B w L) (j : Nat) {vs : List Value} {ss : List (List Int)} (hj : L[j]? = some (sizesA vs ss)) (hl : vs.length = ss.length) {i : Nat} {s : List Int} {D : Option Addr} {n c : Nat} (hi : ss[i]? = some s) (hv : vs[i]? = some (.slice D n c)) : Cells w D (i64s s) := by
  obtain ⟨D', c', h1, _, _, h2⟩ := Hp.sizes h j hj hl hi
  rw [hv] at h1
  injection h1 with h1; injection h1 with h1
  rw [h1]; exact h2
theorem Hp.blocks {B : Nat} {w : World} {L : List Ast} (h : Hp B w L) (i j : Nat) {A : Option Addr} {n c : Nat} {vs : List Value} {ss : List (List Int)} (hi : L[i]? = some (own 233 2 A n c (blkC vs ss))) (hj : L[j]? = some (sizesA vs ss)) (hl : vs.length = ss.length) : BlocksAt w A ss := by
  refine ⟨vs, h.cells i hi, hl, fun q s hq => ?_⟩
  obtain ⟨D, c', h1, h2, _, h3⟩ := Hp.sizes h j hj hl hq
  exact ⟨D, c', h1, h2, h3⟩
theorem Ent.sizes_split {vs us : List Value} {ss ts : List (List Int)} (hl : vs.length = ss.length) (L : List Ast) : Ent (sizesA (vs ++ us) (ss ++ ts) :: L) (sizesA vs ss :: sizesA us ts :: L) := by
  unfold sizesA
  rw [List.zipWith_append hl]
  exact Ent.seps_split _ _ _
theorem Ent.sizes_app {vs us : List Value} {ss ts : List (List Int)} (hl : vs.length = ss.length) (L : List Ast) : Ent (sizesA vs ss :: sizesA us ts :: L) (sizesA (vs ++ us) (ss ++ ts) :: L) := by
  unfold sizesA
  rw [List.zipWith_append hl]
  exact Ent.seps_app _ _ _
theorem blkC_app : ∀ {vs us : List Value} {ss ts : List (List Int)}, vs.length = ss.length → blkC (vs ++ us) (ss ++ ts) = blkC vs ss ++ blkC us ts
  | [], us, [], ts, _ => by simp [blkC]
  | v :: vs, us, s :: ss, ts, h => by simp [blkC, blkC_app (show vs.length = ss.length by simpa using h)]
  | [], _, _ :: _, _, h => by simp at h
  | _ :: _, _, [], _, h => by simp at h
theorem blkC_take : ∀ (vs : List Value) (ss : List (List Int)) (k : Nat), vs.length = ss.length → (blkC vs ss).take (k * 2) = blkC (vs.take k) (ss.take k)
  | [], [], k, _ => by simp [blkC]
  | v :: vs, s :: ss, 0, _ => by simp [blkC]
  | v :: vs, s :: ss, k + 1, h => by
    rw [show (k + 1) * 2 = k * 2 + 1 + 1 by omega]
    simp [blkC, blkC_take vs ss k (by simpa using h)]
  | [], _ :: _, _, h => by simp at h
  | _ :: _, [], _, h => by simp at h
theorem blkC_drop : ∀ (vs : List Value) (ss : List (List Int)) (k : Nat), vs.length = ss.length → (blkC vs ss).drop (k * 2) = blkC (vs.drop k) (ss.drop k)
  | [], [], k, _ => by simp [blkC]
  | v :: vs, s :: ss, 0, _ => by simp [blkC]
  | v :: vs, s :: ss, k + 1, h => by
    rw [show (k + 1) * 2 = k * 2 + 1 + 1 by omega]
    simp [blkC, blkC_drop vs ss k (by simpa using h)]
  | [], _ :: _, _, h => by simp at h
  | _ :: _, [], _, h => by simp at h
theorem blkC_one {vs : List Value} {ss : List (List Int)} (h : ∀ (i : Nat) s, ss[i]? = some s → ∃ B c, vs[i]? = some (.slice B s.length c) ∧ s.length ≤ c) : ∀ u ∈ blkC vs ss, u.oneCell' = true := by
  induction vs generalizing ss with
  | nil => intro u hu; cases ss <;> simp [blkC] at hu
  | cons v vs ih =>
    cases ss with
    | nil => intro u hu; simp [blkC] at hu
    | cons s ss =>
      intro u hu
      simp only [blkC, List.mem_cons] at hu
      rcases hu with rfl | rfl | hu
      · obtain ⟨D, c, h1, _⟩ := h 0 s rfl
        have : u = .slice D s.length c := by simpa using h1
        rw [this]; rfl
      · rfl
      · exact ih (fun i s hi => by simpa using h (i + 1) s (by simpa using hi)) u hu

theorem Hp.own_some {B : Nat} {w : World} {L : List Ast} (h : Hp B w L) (i : Nat) {e : TypeId} {size : Nat} {A : Option Addr} {n c : Nat} {cs : List Value} (hi : L[i]? = some (own e size A n c cs)) (hn : 0 < n) : ∃ g, A = some ⟨g, 0, none⟩ := by
  obtain ⟨S, hS, _⟩ := h.nth i hi
  rcases (own_A.1 hS).1 with ⟨h0, _⟩ | ⟨g, _, hA, _⟩
  · omega
  · exact ⟨g, hA⟩
theorem W_indexL {X : Cx} {k : List It} {F : Fr} {L : List Ast} {T : Tab} (hT : TabOk X.P T) {all : Array Oper} {d : Nat} {t : TypeId} {x ix : Operand} {ty : TypeId} {pos : String} {af : Array Edge} {l : List Oper} {g n c : Nat} {kk : IntKind} {i : Int} {sz : Nat}
    (hd : Nat.blt d X.n = true) (hx : ev F x = some (.slice (some ⟨g, 0, none⟩) n c)) (hix : ev F ix = some (.int kk i)) (ht : elsz T t = some sz) (h0 : 0 ≤ i) (h1 : i < n)
    (h : W X (.ops all l :: k) ((d, .pointer (some ⟨g, i.toNat * sz, none⟩)) :: F) L) : W X (.ops all (⟨some d, .indexAddr t x ix, ty, pos, af, none⟩ :: l) :: k) F L :=
  W_index hT hd hx hix ht h0 h1 (fun _ _ => rfl) (by
    rw [show (Option.map (fun x : Addr => x.add (i.toNat * sz)) (some ⟨g, 0, none⟩)) = some (⟨g, i.toNat * sz, none⟩ : Addr) by rw [Option.map_some, add_lit, Nat.zero_add]]
    exact h)
theorem blk_cell {w : World} {g : Nat} {vs : List Value} {ss : List (List Int)} (h : Cells w (some ⟨g, 0, none⟩) (blkC vs ss)) {q : Nat} {v : Value} {s : List Int} (hv : vs[q]? = some v) (hs : ss[q]? = some s) :
    ∃ ad, Value.pointer (some ⟨g, (q : Int).toNat * 2 + 0, none⟩) = .pointer (some ad) ∧ w.cell? ad = some v := by
  obtain ⟨g1, _⟩ := blkC_get q hv hs
  obtain ⟨a', ha, hc⟩ := h _ _ g1
  injection ha with ha
  subst ha
  rw [add_lit, Nat.zero_add] at hc
  exact ⟨_, rfl, hc⟩
theorem flat_at {ss : List (List Int)} {q r : Nat} (hq : q < ss.length) (hr : r ≤ (rw_ ss q).length) :
    ss.flatten.take ((ss.take q).flatten.length + r) = (ss.take q).flatten ++ (rw_ ss q).take r ∧ ss.flatten.drop ((ss.take q).flatten.length + r) = (rw_ ss q).drop r ++ (ss.drop (q + 1)).flatten := by
  have hg := rw_get (xss := ss) (i := (q : Int)) (by omega) (by omega)
  rw [show ((q : Int)).toNat = q by omega] at hg
  have e2 := flat_split ss q
  rw [flat_drop hg] at e2
  rw [e2]
  constructor
  · rw [List.take_append, List.take_of_length_le (by omega), Nat.add_sub_cancel_left, List.take_append_of_le_length hr]
  · rw [List.drop_append, List.drop_of_length_le (by omega), Nat.add_sub_cancel_left, List.nil_append, List.drop_append_of_le_length hr]
theorem flat_mono {ss : List (List Int)} {q k : Nat} (h : k < q) (hq : q ≤ ss.length) : (ss.take k).flatten.length + (rw_ ss k).length ≤ (ss.take q).flatten.length := by
  have hg := rw_get (xss := ss) (i := (k : Int)) (by omega) (by omega)
  rw [show ((k : Int)).toNat = k by omega] at hg
  have e := flat_take_succ hg
  have h2 : ss.take q = ss.take (k + 1) ++ (ss.drop (k + 1)).take (q - (k + 1)) := by
    rw [← List.take_add]; congr 1; omega
  rw [h2, List.flatten_append, e, List.length_append, List.length_append]
  omega
theorem mid_eq {α : Type} (l : List α) {q k : Nat} (h : q ≤ k) : l = l.take q ++ ((l.drop q).take (k - q) ++ l.drop k) := by
  conv => lhs; rw [← List.take_append_drop q l, ← List.take_append_drop (k - q) (l.drop q), List.drop_drop]
  congr 3
  omega
theorem Ent.sizes_mid {vs us : List Value} {ss ts : List (List Int)} {q k : Nat} (hl : vs.length = ss.length) (hl2 : us.length = ts.length) (h : q ≤ k) (L : List Ast) :
    Ent (sizesA vs ss :: sizesA us ts :: L) (sizesA (vs.take q ++ us ++ vs.drop k) (ss.take q ++ ts ++ ss.drop k) :: L) := by
  conv => lhs; rw [mid_eq vs h, mid_eq ss h]
  have h1 : (vs.take q).length = (ss.take q).length := by simp [hl]
  have h2 : ((vs.drop q).take (k - q)).length = ((ss.drop q).take (k - q)).length := by simp [hl]
  refine (Ent.sizes_split h1 _).trans ?_
  refine (Ent.cons _ ((Ent.sizes_split h2 _).trans (Ent.drop1 _ _))).trans ?_
  refine (Ent.cons _ (Ent.swap _ _ _)).trans ?_
  refine (Ent.sizes_app h1 _).trans ?_
  exact Ent.sizes_app (by simp [hl, hl2]) _
set_option maxHeartbeats 4000000 in
theorem set_c (B : Nat) (w : World) (b : Nat) (pt : Value) (A : Option Addr) (c : Nat) (ss : List (List Int)) (nn : Nat) (f t : Nat) (A0 : Option Addr) (c0 : Nat) (row : List Int) (Lf : List Ast)
    (hB : B ≤ w.heap.size) (hL : Hp B w (box b 155 [pt, .slice A ss.length c, .int .i64 (nn : Nat)] :: blocksA A c ss :: Lf)) (hr : Reads B w Lf A0 (i32s row)) (hok : IxOk ss) (hne : ∀ s ∈ ss, s ≠ []) (hnn : nn = ss.flatten.length) (hft : f < t) (ht : t ≤ ss.flatten.length)
    (hb1 : ss.flatten.length ≤ 1048576) (hb2 : bsum ss.flatten ≤ 1048576) (hb3 : row.length ≤ 1048576) :
    Turn Try.prog 189 [.pointer (some ⟨b, 1, none⟩), .int .i64 (f : Nat), .int .i64 (t : Nat), .slice A0 row.length c0] B w (fun v M => v = .tuple #[] ∧ ∃ A' c' ss', ss'.flatten = ss.flatten.take f ++ lens row ++ ss.flatten.drop t ∧ (∀ s ∈ ss', s ≠ []) ∧
      M = box b 155 [pt, .slice A' ss'.length c', .int .i64 (((ss.flatten.take f ++ lens row ++ ss.flatten.drop t).length : Nat) : Int)] :: blocksA A' c' ss' :: Lf) := by
  refine enterT hB hL Try.func189 rfl Try.ntmps189 rfl rfl ?_
  refine W_pick 1 (by rfl) ?_
  refine W_exA fun vs => W_andA fun hvl => W_seps ?_
  dsimp only [List.cons_append, List.nil_append]
  have hsl := len_le_flat hne
  have hlr := lens_length row
  have hls := lens_mem (x := row)
  have hbl := bsum_lens row
  refine W_ownlen 0 (by rfl) (fun hq1 hq2 hq3 => ?_)
  unfold maxLen at hq3
  repeat first
    | refine W_seq ?_
    | refine W_skip ?_
    | refine W_block ?_
    | refine W_blk ?_
    | refine W_exit (by rfl) ?_
    | refine W_region (by rfl) ?_
    | refine W_opsnil ?_
    | refine W_pure TOk (by rfl) (by first | trivial | (simp only [okI, and_true, true_and, and_self] <;> omega)) ?_
    | refine W_on (by rfl) (by rfl) (by rfl) ?_
    | refine W_off (by rfl) (by rfl) (by rfl) (by rfl) (by rfl) ?_
    | refine W_offU (by rfl) (by rfl) (by rfl) (by rfl) ?_
    | refine W_cond_t (by rfl) ?_
    | refine W_cond_f (by rfl) ?_
  refine W_call _ (by rfl) Try.call175 (by rfl) (fun w1 hw => sizes_c w1 A0 c0 row (hr w1 hw.below (hw.hp.ent ((Ent.drop2 _ _ _).trans (Ent.drop1 _ _)))) (by omega)) ?_; rintro _ _ ⟨A1, c1, rfl, rfl⟩; dsimp only [List.cons_append, List.nil_append]
  repeat first
    | refine W_seq ?_
    | refine W_skip ?_
    | refine W_block ?_
    | refine W_blk ?_
    | refine W_exit (by rfl) ?_
    | refine W_region (by rfl) ?_
    | refine W_opsnil ?_
    | refine W_pure TOk (by rfl) (by first | trivial | (simp only [okI, and_true, true_and, and_self] <;> omega)) ?_
    | refine W_on (by rfl) (by rfl) (by rfl) ?_
    | refine W_off (by rfl) (by rfl) (by rfl) (by rfl) (by rfl) ?_
    | refine W_offU (by rfl) (by rfl) (by rfl) (by rfl) ?_
    | refine W_cond_t (by rfl) ?_
    | refine W_cond_f (by rfl) ?_
  refine W_call _ (by rfl) Try.call210 (by rfl) (fun w1 hw => block_c w1 b A c ss f (box_cell 3 hw.hp rfl) (Hp.blocks hw.hp 1 2 rfl rfl hvl) hok (by omega)) ?_; rintro _ _ ⟨q, r, rfl, rfl, hq, hrq, hqr⟩; dsimp only [List.cons_append, List.nil_append]
  repeat first
    | refine W_seq ?_
    | refine W_skip ?_
    | refine W_block ?_
    | refine W_blk ?_
    | refine W_exit (by rfl) ?_
    | refine W_region (by rfl) ?_
    | refine W_opsnil ?_
    | refine W_pure TOk (by rfl) (by first | trivial | (simp only [okI, and_true, true_and, and_self] <;> omega)) ?_
    | refine W_on (by rfl) (by rfl) (by rfl) ?_
    | refine W_off (by rfl) (by rfl) (by rfl) (by rfl) (by rfl) ?_
    | refine W_offU (by rfl) (by rfl) (by rfl) (by rfl) ?_
    | refine W_cond_t (by rfl) ?_
    | refine W_cond_f (by rfl) ?_
  rw [show ((t : Int) - 1) = ((t - 1 : Nat) : Int) by omega]
  refine W_call _ (by rfl) Try.call210 (by rfl) (fun w1 hw => block_c w1 b A c ss (t - 1) (box_cell 3 hw.hp rfl) (Hp.blocks hw.hp 1 2 rfl rfl hvl) hok (by omega)) ?_; rintro _ _ ⟨k, r2, rfl, rfl, hk, hrk, hkr⟩; dsimp only [List.cons_append, List.nil_append]
  have hqk : q ≤ k := by
    rcases Nat.lt_or_ge k q with h | h
    · have := flat_mono (ss := ss) h (by omega); omega
    · exact h
  have hgq := rw_get (xss := ss) (i := (q : Int)) (by omega) (by omega)
  rw [show ((q : Int)).toNat = q by omega] at hgq
  have hgk := rw_get (xss := ss) (i := (k : Int)) (by omega) (by omega)
  rw [show ((k : Int)).toNat = k by omega] at hgk
  refine W_know (p := (∃ g, A = some ⟨g, 0, none⟩) ∧ ∀ (i : Nat) s, ss[i]? = some s → ∃ D d, vs[i]? = some (.slice D s.length d) ∧ s.length ≤ d ∧ d ≤ maxLen) (fun w1 hw => ⟨Hp.own_some hw.hp 1 rfl (by omega), fun i s hi => by
    obtain ⟨D, d, h1, h2, h3, _⟩ := Hp.sizes hw.hp 2 rfl hvl hi
    exact ⟨D, d, h1, h2, h3⟩⟩) (fun ⟨⟨g, hg⟩, hvs⟩ => ?_)
  subst hg
  obtain ⟨D1, d1, hv1, hd1, hd1m⟩ := hvs q _ hgq
  obtain ⟨D2, d2, hv2, hd2, hd2m⟩ := hvs k _ hgk
  unfold maxLen at hd1m hd2m
  obtain ⟨fa1, fa2⟩ := flat_at hq (Nat.le_of_lt hrq)
  obtain ⟨fb1, fb2⟩ := flat_at (r := r2 + 1) hk (by omega)
  rw [hqr] at fa1
  rw [show (ss.take k).flatten.length + (r2 + 1) = t by omega] at fb2
  repeat first
    | refine W_seq ?_
    | refine W_skip ?_
    | refine W_block ?_
    | refine W_blk ?_
    | refine W_exit (by rfl) ?_
    | refine W_region (by rfl) ?_
    | refine W_opsnil ?_
    | refine W_pure TOk (by rfl) (by first | trivial | (simp only [okI, and_true, true_and, and_self] <;> omega)) ?_
    | refine W_on (by rfl) (by rfl) (by rfl) ?_
    | refine W_off (by rfl) (by rfl) (by rfl) (by rfl) (by rfl) ?_
    | refine W_offU (by rfl) (by rfl) (by rfl) (by rfl) ?_
    | refine W_cond_t (by rfl) ?_
    | refine W_cond_f (by rfl) ?_
    | refine W_load_box 0 TOk (by rfl) (by rfl) (by rfl) (by rfl) (by rfl) ?_
    | refine W_load_box 1 TOk (by rfl) (by rfl) (by rfl) (by rfl) (by rfl) ?_
    | refine W_load_box 2 TOk (by rfl) (by rfl) (by rfl) (by rfl) (by rfl) ?_
    | refine W_load_box 3 TOk (by rfl) (by rfl) (by rfl) (by rfl) (by rfl) ?_
    | refine W_load_boxN 0 TOk (by rfl) (by rfl) (by rfl) (by rfl) (by rfl) ?_
    | refine W_load_boxN 1 TOk (by rfl) (by rfl) (by rfl) (by rfl) (by rfl) ?_
    | refine W_load_boxN 2 TOk (by rfl) (by rfl) (by rfl) (by rfl) (by rfl) ?_
    | refine W_load_boxN 3 TOk (by rfl) (by rfl) (by rfl) (by rfl) (by rfl) ?_
    | (refine W_store_box 0 TOk (by rfl) (by rfl) (by rfl) (by rfl) (by rfl) (by rfl) ?_; dsimp only [setL, putL, vcells])
    | (refine W_store_box 1 TOk (by rfl) (by rfl) (by rfl) (by rfl) (by rfl) (by rfl) ?_; dsimp only [setL, putL, vcells])
    | (refine W_store_box 2 TOk (by rfl) (by rfl) (by rfl) (by rfl) (by rfl) (by rfl) ?_; dsimp only [setL, putL, vcells])
    | (refine W_store_box 3 TOk (by rfl) (by rfl) (by rfl) (by rfl) (by rfl) (by rfl) ?_; dsimp only [setL, putL, vcells])
  refine W_indexL TOk (by rfl) (by rfl) (by rfl) es150 (by omega) (by omega) ?_
  repeat first
    | refine W_seq ?_
    | refine W_skip ?_
    | refine W_block ?_
    | refine W_blk ?_
    | refine W_exit (by rfl) ?_
    | refine W_region (by rfl) ?_
    | refine W_opsnil ?_
    | refine W_pure TOk (by rfl) (by first | trivial | (simp only [okI, and_true, true_and, and_self] <;> omega)) ?_
    | refine W_on (by rfl) (by rfl) (by rfl) ?_
    | refine W_off (by rfl) (by rfl) (by rfl) (by rfl) (by rfl) ?_
    | refine W_offU (by rfl) (by rfl) (by rfl) (by rfl) ?_
    | refine W_cond_t (by rfl) ?_
    | refine W_cond_f (by rfl) ?_
    | refine W_load_box 0 TOk (by rfl) (by rfl) (by rfl) (by rfl) (by rfl) ?_
    | refine W_load_box 1 TOk (by rfl) (by rfl) (by rfl) (by rfl) (by rfl) ?_
    | refine W_load_box 2 TOk (by rfl) (by rfl) (by rfl) (by rfl) (by rfl) ?_
    | refine W_load_box 3 TOk (by rfl) (by rfl) (by rfl) (by rfl) (by rfl) ?_
    | refine W_load_boxN 0 TOk (by rfl) (by rfl) (by rfl) (by rfl) (by rfl) ?_
    | refine W_load_boxN 1 TOk (by rfl) (by rfl) (by rfl) (by rfl) (by rfl) ?_
    | refine W_load_boxN 2 TOk (by rfl) (by rfl) (by rfl) (by rfl) (by rfl) ?_
    | refine W_load_boxN 3 TOk (by rfl) (by rfl) (by rfl) (by rfl) (by rfl) ?_
    | (refine W_store_box 0 TOk (by rfl) (by rfl) (by rfl) (by rfl) (by rfl) (by rfl) ?_; dsimp only [setL, putL, vcells])
    | (refine W_store_box 1 TOk (by rfl) (by rfl) (by rfl) (by rfl) (by rfl) (by rfl) ?_; dsimp only [setL, putL, vcells])
    | (refine W_store_box 2 TOk (by rfl) (by rfl) (by rfl) (by rfl) (by rfl) (by rfl) ?_; dsimp only [setL, putL, vcells])
    | (refine W_store_box 3 TOk (by rfl) (by rfl) (by rfl) (by rfl) (by rfl) (by rfl) ?_; dsimp only [setL, putL, vcells])
  refine W_load TOk (by rfl) (by rfl) (by rfl) (fun w1 hw => blk_cell (hw.hp.cells 1 rfl) hv1 hgq) ?_
  repeat first
    | refine W_seq ?_
    | refine W_skip ?_
    | refine W_block ?_
    | refine W_blk ?_
    | refine W_exit (by rfl) ?_
    | refine W_region (by rfl) ?_
    | refine W_opsnil ?_
    | refine W_pure TOk (by rfl) (by first | trivial | (simp only [okI, and_true, true_and, and_self] <;> omega)) ?_
    | refine W_on (by rfl) (by rfl) (by rfl) ?_
    | refine W_off (by rfl) (by rfl) (by rfl) (by rfl) (by rfl) ?_
    | refine W_offU (by rfl) (by rfl) (by rfl) (by rfl) ?_
    | refine W_cond_t (by rfl) ?_
    | refine W_cond_f (by rfl) ?_
    | refine W_load_box 0 TOk (by rfl) (by rfl) (by rfl) (by rfl) (by rfl) ?_
    | refine W_load_box 1 TOk (by rfl) (by rfl) (by rfl) (by rfl) (by rfl) ?_
    | refine W_load_box 2 TOk (by rfl) (by rfl) (by rfl) (by rfl) (by rfl) ?_
    | refine W_load_box 3 TOk (by rfl) (by rfl) (by rfl) (by rfl) (by rfl) ?_
    | refine W_load_boxN 0 TOk (by rfl) (by rfl) (by rfl) (by rfl) (by rfl) ?_
    | refine W_load_boxN 1 TOk (by rfl) (by rfl) (by rfl) (by rfl) (by rfl) ?_
    | refine W_load_boxN 2 TOk (by rfl) (by rfl) (by rfl) (by rfl) (by rfl) ?_
    | refine W_load_boxN 3 TOk (by rfl) (by rfl) (by rfl) (by rfl) (by rfl) ?_
    | (refine W_store_box 0 TOk (by rfl) (by rfl) (by rfl) (by rfl) (by rfl) (by rfl) ?_; dsimp only [setL, putL, vcells])
    | (refine W_store_box 1 TOk (by rfl) (by rfl) (by rfl) (by rfl) (by rfl) (by rfl) ?_; dsimp only [setL, putL, vcells])
    | (refine W_store_box 2 TOk (by rfl) (by rfl) (by rfl) (by rfl) (by rfl) (by rfl) ?_; dsimp only [setL, putL, vcells])
    | (refine W_store_box 3 TOk (by rfl) (by rfl) (by rfl) (by rfl) (by rfl) (by rfl) ?_; dsimp only [setL, putL, vcells])
  simp only [Int.toNat_natCast, Int.toNat_zero, Nat.sub_zero]
  have hkl : (rw_ ss k).length ≤ ss.flatten.length := by
    have := congrArg List.length (flat_split ss k)
    rw [flat_drop hgk, List.length_append, List.length_append] at this
    omega
  have hql : (rw_ ss q).length ≤ ss.flatten.length := by
    have := congrArg List.length (flat_split ss q)
    rw [flat_drop hgq, List.length_append, List.length_append] at this
    omega
  have ha1 : ((rw_ ss q).take r).length = r := by rw [List.length_take]; omega
  refine W_append_zero TOk (by rfl) (by rfl) (by rfl) sl136 (fun w1 hw => (show Cells w1 (cutA D1 0 d1 1) (i64s ((rw_ ss q).take r)) by simpa using (Hp.sizeCells hw.hp 2 rfl hvl hgq hv1).cut64 0 r d1 (by omega))) (by rw [i64s_length, ha1, Nat.mul_one]) (by unfold maxLen; omega) (by omega) (fun A2 c2 => ?_)
  repeat first
    | refine W_seq ?_
    | refine W_skip ?_
    | refine W_block ?_
    | refine W_blk ?_
    | refine W_exit (by rfl) ?_
    | refine W_region (by rfl) ?_
    | refine W_opsnil ?_
    | refine W_pure TOk (by rfl) (by first | trivial | (simp only [okI, and_true, true_and, and_self] <;> omega)) ?_
    | refine W_on (by rfl) (by rfl) (by rfl) ?_
    | refine W_off (by rfl) (by rfl) (by rfl) (by rfl) (by rfl) ?_
    | refine W_offU (by rfl) (by rfl) (by rfl) (by rfl) ?_
    | refine W_cond_t (by rfl) ?_
    | refine W_cond_f (by rfl) ?_
    | refine W_load_box 0 TOk (by rfl) (by rfl) (by rfl) (by rfl) (by rfl) ?_
    | refine W_load_box 1 TOk (by rfl) (by rfl) (by rfl) (by rfl) (by rfl) ?_
    | refine W_load_box 2 TOk (by rfl) (by rfl) (by rfl) (by rfl) (by rfl) ?_
    | refine W_load_box 3 TOk (by rfl) (by rfl) (by rfl) (by rfl) (by rfl) ?_
    | refine W_load_box 4 TOk (by rfl) (by rfl) (by rfl) (by rfl) (by rfl) ?_
    | refine W_load_boxN 0 TOk (by rfl) (by rfl) (by rfl) (by rfl) (by rfl) ?_
    | refine W_load_boxN 1 TOk (by rfl) (by rfl) (by rfl) (by rfl) (by rfl) ?_
    | refine W_load_boxN 2 TOk (by rfl) (by rfl) (by rfl) (by rfl) (by rfl) ?_
    | refine W_load_boxN 3 TOk (by rfl) (by rfl) (by rfl) (by rfl) (by rfl) ?_
    | refine W_load_boxN 4 TOk (by rfl) (by rfl) (by rfl) (by rfl) (by rfl) ?_
    | (refine W_store_box 0 TOk (by rfl) (by rfl) (by rfl) (by rfl) (by rfl) (by rfl) ?_; dsimp only [setL, putL, vcells])
    | (refine W_store_box 1 TOk (by rfl) (by rfl) (by rfl) (by rfl) (by rfl) (by rfl) ?_; dsimp only [setL, putL, vcells])
    | (refine W_store_box 2 TOk (by rfl) (by rfl) (by rfl) (by rfl) (by rfl) (by rfl) ?_; dsimp only [setL, putL, vcells])
    | (refine W_store_box 3 TOk (by rfl) (by rfl) (by rfl) (by rfl) (by rfl) (by rfl) ?_; dsimp only [setL, putL, vcells])
    | (refine W_store_box 4 TOk (by rfl) (by rfl) (by rfl) (by rfl) (by rfl) (by rfl) ?_; dsimp only [setL, putL, vcells])
  refine W_append_own 0 TOk (by rfl) (by rfl) (by rfl) sl136 (by rfl) (fun w1 hw => hw.hp.cells 1 rfl) (by rw [i64s_length, Nat.mul_one]) (by first | exact i32s_one _ | exact i64s_one _ | exact one_of _ rfl) (by unfold maxLen; omega) (by omega) (fun A3 c3 => ?_); dsimp only [setL]
  repeat first
    | refine W_seq ?_
    | refine W_skip ?_
    | refine W_block ?_
    | refine W_blk ?_
    | refine W_exit (by rfl) ?_
    | refine W_region (by rfl) ?_
    | refine W_opsnil ?_
    | refine W_pure TOk (by rfl) (by first | trivial | (simp only [okI, and_true, true_and, and_self] <;> omega)) ?_
    | refine W_on (by rfl) (by rfl) (by rfl) ?_
    | refine W_off (by rfl) (by rfl) (by rfl) (by rfl) (by rfl) ?_
    | refine W_offU (by rfl) (by rfl) (by rfl) (by rfl) ?_
    | refine W_cond_t (by rfl) ?_
    | refine W_cond_f (by rfl) ?_
    | refine W_load_box 0 TOk (by rfl) (by rfl) (by rfl) (by rfl) (by rfl) ?_
    | refine W_load_box 1 TOk (by rfl) (by rfl) (by rfl) (by rfl) (by rfl) ?_
    | refine W_load_box 2 TOk (by rfl) (by rfl) (by rfl) (by rfl) (by rfl) ?_
    | refine W_load_box 3 TOk (by rfl) (by rfl) (by rfl) (by rfl) (by rfl) ?_
    | refine W_load_box 4 TOk (by rfl) (by rfl) (by rfl) (by rfl) (by rfl) ?_
    | refine W_load_boxN 0 TOk (by rfl) (by rfl) (by rfl) (by rfl) (by rfl) ?_
    | refine W_load_boxN 1 TOk (by rfl) (by rfl) (by rfl) (by rfl) (by rfl) ?_
    | refine W_load_boxN 2 TOk (by rfl) (by rfl) (by rfl) (by rfl) (by rfl) ?_
    | refine W_load_boxN 3 TOk (by rfl) (by rfl) (by rfl) (by rfl) (by rfl) ?_
    | refine W_load_boxN 4 TOk (by rfl) (by rfl) (by rfl) (by rfl) (by rfl) ?_
    | (refine W_store_box 0 TOk (by rfl) (by rfl) (by rfl) (by rfl) (by rfl) (by rfl) ?_; dsimp only [setL, putL, vcells])
    | (refine W_store_box 1 TOk (by rfl) (by rfl) (by rfl) (by rfl) (by rfl) (by rfl) ?_; dsimp only [setL, putL, vcells])
    | (refine W_store_box 2 TOk (by rfl) (by rfl) (by rfl) (by rfl) (by rfl) (by rfl) ?_; dsimp only [setL, putL, vcells])
    | (refine W_store_box 3 TOk (by rfl) (by rfl) (by rfl) (by rfl) (by rfl) (by rfl) ?_; dsimp only [setL, putL, vcells])
    | (refine W_store_box 4 TOk (by rfl) (by rfl) (by rfl) (by rfl) (by rfl) (by rfl) ?_; dsimp only [setL, putL, vcells])
  refine W_indexL TOk (by rfl) (by rfl) (by rfl) es150 (by omega) (by omega) ?_
  repeat first
    | refine W_seq ?_
    | refine W_skip ?_
    | refine W_block ?_
    | refine W_blk ?_
    | refine W_exit (by rfl) ?_
    | refine W_region (by rfl) ?_
    | refine W_opsnil ?_
    | refine W_pure TOk (by rfl) (by first | trivial | (simp only [okI, and_true, true_and, and_self] <;> omega)) ?_
    | refine W_on (by rfl) (by rfl) (by rfl) ?_
    | refine W_off (by rfl) (by rfl) (by rfl) (by rfl) (by rfl) ?_
    | refine W_offU (by rfl) (by rfl) (by rfl) (by rfl) ?_
    | refine W_cond_t (by rfl) ?_
    | refine W_cond_f (by rfl) ?_
    | refine W_load_box 0 TOk (by rfl) (by rfl) (by rfl) (by rfl) (by rfl) ?_
    | refine W_load_box 1 TOk (by rfl) (by rfl) (by rfl) (by rfl) (by rfl) ?_
    | refine W_load_box 2 TOk (by rfl) (by rfl) (by rfl) (by rfl) (by rfl) ?_
    | refine W_load_box 3 TOk (by rfl) (by rfl) (by rfl) (by rfl) (by rfl) ?_
    | refine W_load_box 4 TOk (by rfl) (by rfl) (by rfl) (by rfl) (by rfl) ?_
    | refine W_load_boxN 0 TOk (by rfl) (by rfl) (by rfl) (by rfl) (by rfl) ?_
    | refine W_load_boxN 1 TOk (by rfl) (by rfl) (by rfl) (by rfl) (by rfl) ?_
    | refine W_load_boxN 2 TOk (by rfl) (by rfl) (by rfl) (by rfl) (by rfl) ?_
    | refine W_load_boxN 3 TOk (by rfl) (by rfl) (by rfl) (by rfl) (by rfl) ?_
    | refine W_load_boxN 4 TOk (by rfl) (by rfl) (by rfl) (by rfl) (by rfl) ?_
    | (refine W_store_box 0 TOk (by rfl) (by rfl) (by rfl) (by rfl) (by rfl) (by rfl) ?_; dsimp only [setL, putL, vcells])
    | (refine W_store_box 1 TOk (by rfl) (by rfl) (by rfl) (by rfl) (by rfl) (by rfl) ?_; dsimp only [setL, putL, vcells])
    | (refine W_store_box 2 TOk (by rfl) (by rfl) (by rfl) (by rfl) (by rfl) (by rfl) ?_; dsimp only [setL, putL, vcells])
    | (refine W_store_box 3 TOk (by rfl) (by rfl) (by rfl) (by rfl) (by rfl) (by rfl) ?_; dsimp only [setL, putL, vcells])
    | (refine W_store_box 4 TOk (by rfl) (by rfl) (by rfl) (by rfl) (by rfl) (by rfl) ?_; dsimp only [setL, putL, vcells])
  refine W_load TOk (by rfl) (by rfl) (by rfl) (fun w1 hw => blk_cell (hw.hp.cells 2 rfl) hv2 hgk) ?_
  repeat first
    | refine W_seq ?_
    | refine W_skip ?_
    | refine W_block ?_
    | refine W_blk ?_
    | refine W_exit (by rfl) ?_
    | refine W_region (by rfl) ?_
    | refine W_opsnil ?_
    | refine W_pure TOk (by rfl) (by first | trivial | (simp only [okI, and_true, true_and, and_self] <;> omega)) ?_
    | refine W_on (by rfl) (by rfl) (by rfl) ?_
    | refine W_off (by rfl) (by rfl) (by rfl) (by rfl) (by rfl) ?_
    | refine W_offU (by rfl) (by rfl) (by rfl) (by rfl) ?_
    | refine W_cond_t (by rfl) ?_
    | refine W_cond_f (by rfl) ?_
    | refine W_load_box 0 TOk (by rfl) (by rfl) (by rfl) (by rfl) (by rfl) ?_
    | refine W_load_box 1 TOk (by rfl) (by rfl) (by rfl) (by rfl) (by rfl) ?_
    | refine W_load_box 2 TOk (by rfl) (by rfl) (by rfl) (by rfl) (by rfl) ?_
    | refine W_load_box 3 TOk (by rfl) (by rfl) (by rfl) (by rfl) (by rfl) ?_
    | refine W_load_box 4 TOk (by rfl) (by rfl) (by rfl) (by rfl) (by rfl) ?_
    | refine W_load_boxN 0 TOk (by rfl) (by rfl) (by rfl) (by rfl) (by rfl) ?_
    | refine W_load_boxN 1 TOk (by rfl) (by rfl) (by rfl) (by rfl) (by rfl) ?_
    | refine W_load_boxN 2 TOk (by rfl) (by rfl) (by rfl) (by rfl) (by rfl) ?_
    | refine W_load_boxN 3 TOk (by rfl) (by rfl) (by rfl) (by rfl) (by rfl) ?_
    | refine W_load_boxN 4 TOk (by rfl) (by rfl) (by rfl) (by rfl) (by rfl) ?_
    | (refine W_store_box 0 TOk (by rfl) (by rfl) (by rfl) (by rfl) (by rfl) (by rfl) ?_; dsimp only [setL, putL, vcells])
    | (refine W_store_box 1 TOk (by rfl) (by rfl) (by rfl) (by rfl) (by rfl) (by rfl) ?_; dsimp only [setL, putL, vcells])
    | (refine W_store_box 2 TOk (by rfl) (by rfl) (by rfl) (by rfl) (by rfl) (by rfl) ?_; dsimp only [setL, putL, vcells])
    | (refine W_store_box 3 TOk (by rfl) (by rfl) (by rfl) (by rfl) (by rfl) (by rfl) ?_; dsimp only [setL, putL, vcells])
    | (refine W_store_box 4 TOk (by rfl) (by rfl) (by rfl) (by rfl) (by rfl) (by rfl) ?_; dsimp only [setL, putL, vcells])
  simp only [Int.toNat_natCast, Int.toNat_zero, Nat.sub_zero]
  rw [show ((r2 : Int) + 1).toNat = r2 + 1 by omega]
  have ha2 : ((rw_ ss k).drop (r2 + 1)).length = (rw_ ss k).length - (r2 + 1) := List.length_drop
  refine W_append_own 0 TOk (by rfl) (by rfl) (by rfl) sl136 (by rfl) (fun w1 hw => (show Cells w1 (cutA D2 (r2 + 1) d2 1) (i64s ((rw_ ss k).drop (r2 + 1))) by
    have := (Hp.sizeCells hw.hp 3 rfl hvl hgk hv2).cut64 (r2 + 1) (rw_ ss k).length d2 (by omega)
    rwa [List.take_of_length_le (by rw [List.length_drop]; omega)] at this)) (by rw [i64s_length, ha2, Nat.mul_one]) (by first | exact i32s_one _ | exact i64s_one _ | exact one_of _ rfl) (by unfold maxLen; omega) (by omega) (fun A4 c4 => ?_); dsimp only [setL]
  repeat first
    | refine W_seq ?_
    | refine W_skip ?_
    | refine W_block ?_
    | refine W_blk ?_
    | refine W_exit (by rfl) ?_
    | refine W_region (by rfl) ?_
    | refine W_opsnil ?_
    | refine W_pure TOk (by rfl) (by first | trivial | (simp only [okI, and_true, true_and, and_self] <;> omega)) ?_
    | refine W_on (by rfl) (by rfl) (by rfl) ?_
    | refine W_off (by rfl) (by rfl) (by rfl) (by rfl) (by rfl) ?_
    | refine W_offU (by rfl) (by rfl) (by rfl) (by rfl) ?_
    | refine W_cond_t (by rfl) ?_
    | refine W_cond_f (by rfl) ?_
    | refine W_load_box 0 TOk (by rfl) (by rfl) (by rfl) (by rfl) (by rfl) ?_
    | refine W_load_box 1 TOk (by rfl) (by rfl) (by rfl) (by rfl) (by rfl) ?_
    | refine W_load_box 2 TOk (by rfl) (by rfl) (by rfl) (by rfl) (by rfl) ?_
    | refine W_load_box 3 TOk (by rfl) (by rfl) (by rfl) (by rfl) (by rfl) ?_
    | refine W_load_box 4 TOk (by rfl) (by rfl) (by rfl) (by rfl) (by rfl) ?_
    | refine W_load_boxN 0 TOk (by rfl) (by rfl) (by rfl) (by rfl) (by rfl) ?_
    | refine W_load_boxN 1 TOk (by rfl) (by rfl) (by rfl) (by rfl) (by rfl) ?_
    | refine W_load_boxN 2 TOk (by rfl) (by rfl) (by rfl) (by rfl) (by rfl) ?_
    | refine W_load_boxN 3 TOk (by rfl) (by rfl) (by rfl) (by rfl) (by rfl) ?_
    | refine W_load_boxN 4 TOk (by rfl) (by rfl) (by rfl) (by rfl) (by rfl) ?_
    | (refine W_store_box 0 TOk (by rfl) (by rfl) (by rfl) (by rfl) (by rfl) (by rfl) ?_; dsimp only [setL, putL, vcells])
    | (refine W_store_box 1 TOk (by rfl) (by rfl) (by rfl) (by rfl) (by rfl) (by rfl) ?_; dsimp only [setL, putL, vcells])
    | (refine W_store_box 2 TOk (by rfl) (by rfl) (by rfl) (by rfl) (by rfl) (by rfl) ?_; dsimp only [setL, putL, vcells])
    | (refine W_store_box 3 TOk (by rfl) (by rfl) (by rfl) (by rfl) (by rfl) (by rfl) ?_; dsimp only [setL, putL, vcells])
    | (refine W_store_box 4 TOk (by rfl) (by rfl) (by rfl) (by rfl) (by rfl) (by rfl) ?_; dsimp only [setL, putL, vcells])
  simp only [Int.toNat_natCast, Int.toNat_zero, Nat.sub_zero]
  have htq : (ss.take q).length = q := by rw [List.length_take]; omega
  have htv : (vs.take q).length = (ss.take q).length := by simp [hvl]
  refine W_append_zero TOk (by rfl) (by rfl) (by rfl) sl150 (fun w1 hw => (show Cells w1 (cutA (some ⟨g, 0, none⟩) 0 c 2) (blkC (vs.take q) (ss.take q)) by
    have := (hw.hp.cells 2 rfl).cut 0 q c 2 (by omega)
    rwa [Nat.zero_mul, List.drop_zero, Nat.sub_zero, blkC_take vs ss q hvl] at this)) (by rw [blkC_length htv, htq]) (by unfold maxLen; omega) (by omega) (fun A5 c5 => ?_)
  repeat first
    | refine W_seq ?_
    | refine W_skip ?_
    | refine W_block ?_
    | refine W_blk ?_
    | refine W_exit (by rfl) ?_
    | refine W_region (by rfl) ?_
    | refine W_opsnil ?_
    | refine W_pure TOk (by rfl) (by first | trivial | (simp only [okI, and_true, true_and, and_self] <;> omega)) ?_
    | refine W_on (by rfl) (by rfl) (by rfl) ?_
    | refine W_off (by rfl) (by rfl) (by rfl) (by rfl) (by rfl) ?_
    | refine W_offU (by rfl) (by rfl) (by rfl) (by rfl) ?_
    | refine W_cond_t (by rfl) ?_
    | refine W_cond_f (by rfl) ?_
    | refine W_load_box 0 TOk (by rfl) (by rfl) (by rfl) (by rfl) (by rfl) ?_
    | refine W_load_box 1 TOk (by rfl) (by rfl) (by rfl) (by rfl) (by rfl) ?_
    | refine W_load_box 2 TOk (by rfl) (by rfl) (by rfl) (by rfl) (by rfl) ?_
    | refine W_load_box 3 TOk (by rfl) (by rfl) (by rfl) (by rfl) (by rfl) ?_
    | refine W_load_box 4 TOk (by rfl) (by rfl) (by rfl) (by rfl) (by rfl) ?_
    | refine W_load_boxN 0 TOk (by rfl) (by rfl) (by rfl) (by rfl) (by rfl) ?_
    | refine W_load_boxN 1 TOk (by rfl) (by rfl) (by rfl) (by rfl) (by rfl) ?_
    | refine W_load_boxN 2 TOk (by rfl) (by rfl) (by rfl) (by rfl) (by rfl) ?_
    | refine W_load_boxN 3 TOk (by rfl) (by rfl) (by rfl) (by rfl) (by rfl) ?_
    | refine W_load_boxN 4 TOk (by rfl) (by rfl) (by rfl) (by rfl) (by rfl) ?_
    | (refine W_store_box 0 TOk (by rfl) (by rfl) (by rfl) (by rfl) (by rfl) (by rfl) ?_; dsimp only [setL, putL, vcells])
    | (refine W_store_box 1 TOk (by rfl) (by rfl) (by rfl) (by rfl) (by rfl) (by rfl) ?_; dsimp only [setL, putL, vcells])
    | (refine W_store_box 2 TOk (by rfl) (by rfl) (by rfl) (by rfl) (by rfl) (by rfl) ?_; dsimp only [setL, putL, vcells])
    | (refine W_store_box 3 TOk (by rfl) (by rfl) (by rfl) (by rfl) (by rfl) (by rfl) ?_; dsimp only [setL, putL, vcells])
    | (refine W_store_box 4 TOk (by rfl) (by rfl) (by rfl) (by rfl) (by rfl) (by rfl) ?_; dsimp only [setL, putL, vcells])
  generalize hall : (rw_ ss q).take r ++ lens row ++ (rw_ ss k).drop (r2 + 1) = al
  have hal : al.length = r + (lens row).length + ((rw_ ss k).length - (r2 + 1)) := by rw [← hall, List.length_append, List.length_append, ha1, ha2]
  have hal2 : i64s ((rw_ ss q).take r) ++ i64s (lens row) ++ i64s ((rw_ ss k).drop (r2 + 1)) = i64s al := by rw [← hall]; simp [i64s]
  have hkok := hok.blk hk
  have hqok := hok.blk hq
  have hals : bsum al ≤ 1099511627776 := by
    rw [← hall, bsum_append, bsum_append, bsum_lens]
    have h1 := (bsum_take_le hqok.2.1 r).2
    have h2 := bsum_append ((rw_ ss k).take (r2 + 1)) ((rw_ ss k).drop (r2 + 1))
    rw [List.take_append_drop] at h2
    have h3 := (bsum_take_le hkok.2.1 (r2 + 1)).1
    have h4 := hqok.2.2.2.1
    have h5 := hkok.2.2.2.1
    have hs := bsum_append (ss.take q).flatten ((ss.drop q).flatten)
    rw [← flat_split] at hs
    have h6 : ∀ x ∈ (ss.drop (q + 1)).flatten, 0 ≤ x := fun x hx => hok.pos x (by rw [flat_split ss (q + 1)]; exact List.mem_append_right _ hx)
    have h7 : ∀ x ∈ (ss.drop (k + 1)).flatten, 0 ≤ x := fun x hx => hok.pos x (by rw [flat_split ss (k + 1)]; exact List.mem_append_right _ hx)
    have h8 := bsum_nonneg h6
    have h9 := bsum_nonneg h7
    rw [flat_drop hgq, bsum_append] at hs
    have ht := bsum_append (ss.take k).flatten ((ss.drop k).flatten)
    rw [← flat_split, flat_drop hgk, bsum_append] at ht
    omega
  have halp : ∀ x ∈ al, 0 ≤ x := by
    rw [← hall]
    intro x hx
    rcases List.mem_append.1 hx with hx | hx
    · rcases List.mem_append.1 hx with hx | hx
      · exact hqok.2.1 x (List.mem_of_mem_take hx)
      · exact (hls x hx).1
    · exact hkok.2.1 x (List.mem_of_mem_drop hx)
  rw [hal2, ← hal]
  refine W_ownlen 1 (by rfl) (fun hq4 hq5 hq6 => ?_)
  refine W_call _ (by rfl) Try.call176 (by rfl) (fun w1 hw => blocked_c w1 A4 c4 al (hw.hp.cells 1 rfl) (by omega) hq5 halp hals) ?_; rintro _ _ ⟨A6, c6, ts, rfl, htf, htn, rfl⟩; dsimp only [List.cons_append, List.nil_append]
  refine W_exA fun us => W_andA fun hul => W_seps ?_
  dsimp only [List.cons_append, List.nil_append]
  have htl := len_le_flat htn
  rw [htf] at htl
  refine W_know (p := ∀ (i : Nat) s, ts[i]? = some s → ∃ D d, us[i]? = some (.slice D s.length d) ∧ s.length ≤ d) (fun w1 hw i s hi => by
    obtain ⟨D, d, h1, h2, h3, _⟩ := Hp.sizes hw.hp 1 rfl hul hi
    exact ⟨D, d, h1, h2⟩) (fun hus => ?_)
  refine W_append_own 2 TOk (by rfl) (by rfl) (by rfl) sl150 (by rfl) (fun w1 hw => hw.hp.cells 0 rfl) (blkC_length hul) (blkC_one hus) (by unfold maxLen; omega) (by omega) (fun A7 c7 => ?_); dsimp only [setL]
  repeat first
    | refine W_seq ?_
    | refine W_skip ?_
    | refine W_block ?_
    | refine W_blk ?_
    | refine W_exit (by rfl) ?_
    | refine W_region (by rfl) ?_
    | refine W_opsnil ?_
    | refine W_pure TOk (by rfl) (by first | trivial | (simp only [okI, and_true, true_and, and_self] <;> omega)) ?_
    | refine W_on (by rfl) (by rfl) (by rfl) ?_
    | refine W_off (by rfl) (by rfl) (by rfl) (by rfl) (by rfl) ?_
    | refine W_offU (by rfl) (by rfl) (by rfl) (by rfl) ?_
    | refine W_cond_t (by rfl) ?_
    | refine W_cond_f (by rfl) ?_
    | refine W_load_box 0 TOk (by rfl) (by rfl) (by rfl) (by rfl) (by rfl) ?_
    | refine W_load_box 1 TOk (by rfl) (by rfl) (by rfl) (by rfl) (by rfl) ?_
    | refine W_load_box 2 TOk (by rfl) (by rfl) (by rfl) (by rfl) (by rfl) ?_
    | refine W_load_box 3 TOk (by rfl) (by rfl) (by rfl) (by rfl) (by rfl) ?_
    | refine W_load_box 4 TOk (by rfl) (by rfl) (by rfl) (by rfl) (by rfl) ?_
    | refine W_load_box 5 TOk (by rfl) (by rfl) (by rfl) (by rfl) (by rfl) ?_
    | refine W_load_box 6 TOk (by rfl) (by rfl) (by rfl) (by rfl) (by rfl) ?_
    | refine W_load_box 7 TOk (by rfl) (by rfl) (by rfl) (by rfl) (by rfl) ?_
    | refine W_load_boxN 0 TOk (by rfl) (by rfl) (by rfl) (by rfl) (by rfl) ?_
    | refine W_load_boxN 1 TOk (by rfl) (by rfl) (by rfl) (by rfl) (by rfl) ?_
    | refine W_load_boxN 2 TOk (by rfl) (by rfl) (by rfl) (by rfl) (by rfl) ?_
    | refine W_load_boxN 3 TOk (by rfl) (by rfl) (by rfl) (by rfl) (by rfl) ?_
    | refine W_load_boxN 4 TOk (by rfl) (by rfl) (by rfl) (by rfl) (by rfl) ?_
    | refine W_load_boxN 5 TOk (by rfl) (by rfl) (by rfl) (by rfl) (by rfl) ?_
    | refine W_load_boxN 6 TOk (by rfl) (by rfl) (by rfl) (by rfl) (by rfl) ?_
    | refine W_load_boxN 7 TOk (by rfl) (by rfl) (by rfl) (by rfl) (by rfl) ?_
    | (refine W_store_box 0 TOk (by rfl) (by rfl) (by rfl) (by rfl) (by rfl) (by rfl) ?_; dsimp only [setL, putL, vcells])
    | (refine W_store_box 1 TOk (by rfl) (by rfl) (by rfl) (by rfl) (by rfl) (by rfl) ?_; dsimp only [setL, putL, vcells])
    | (refine W_store_box 2 TOk (by rfl) (by rfl) (by rfl) (by rfl) (by rfl) (by rfl) ?_; dsimp only [setL, putL, vcells])
    | (refine W_store_box 3 TOk (by rfl) (by rfl) (by rfl) (by rfl) (by rfl) (by rfl) ?_; dsimp only [setL, putL, vcells])
    | (refine W_store_box 4 TOk (by rfl) (by rfl) (by rfl) (by rfl) (by rfl) (by rfl) ?_; dsimp only [setL, putL, vcells])
    | (refine W_store_box 5 TOk (by rfl) (by rfl) (by rfl) (by rfl) (by rfl) (by rfl) ?_; dsimp only [setL, putL, vcells])
    | (refine W_store_box 6 TOk (by rfl) (by rfl) (by rfl) (by rfl) (by rfl) (by rfl) ?_; dsimp only [setL, putL, vcells])
    | (refine W_store_box 7 TOk (by rfl) (by rfl) (by rfl) (by rfl) (by rfl) (by rfl) ?_; dsimp only [setL, putL, vcells])
  simp only [Int.toNat_natCast, Int.toNat_zero, Nat.sub_zero]
  rw [show ((k : Int) + 1).toNat = k + 1 by omega]
  have hdk : (ss.drop (k + 1)).length = ss.length - (k + 1) := List.length_drop
  have hdv : (vs.drop (k + 1)).length = (ss.drop (k + 1)).length := by simp [hvl]
  refine W_append_own 2 TOk (by rfl) (by rfl) (by rfl) sl150 (by rfl) (fun w1 hw => (show Cells w1 (cutA (some ⟨g, 0, none⟩) (k + 1) c 2) (blkC (vs.drop (k + 1)) (ss.drop (k + 1))) by
    have := (hw.hp.cells 5 rfl).cut (k + 1) ss.length c 2 (by omega)
    rwa [blkC_drop vs ss (k + 1) hvl, List.take_of_length_le (by rw [blkC_length hdv, hdk]; omega)] at this)) (by rw [blkC_length hdv, hdk]) (blkC_one (fun i s hi => by
    rw [List.getElem?_drop] at hi
    obtain ⟨D, d, h1, h2, _⟩ := hvs _ s hi
    exact ⟨D, d, by rw [List.getElem?_drop]; exact h1, h2⟩)) (by unfold maxLen; omega) (by omega) (fun A8 c8 => ?_); dsimp only [setL]
  repeat first
    | refine W_seq ?_
    | refine W_skip ?_
    | refine W_block ?_
    | refine W_blk ?_
    | refine W_exit (by rfl) ?_
    | refine W_region (by rfl) ?_
    | refine W_opsnil ?_
    | refine W_pure TOk (by rfl) (by first | trivial | (simp only [okI, and_true, true_and, and_self] <;> omega)) ?_
    | refine W_on (by rfl) (by rfl) (by rfl) ?_
    | refine W_off (by rfl) (by rfl) (by rfl) (by rfl) (by rfl) ?_
    | refine W_offU (by rfl) (by rfl) (by rfl) (by rfl) ?_
    | refine W_cond_t (by rfl) ?_
    | refine W_cond_f (by rfl) ?_
    | refine W_load_box 0 TOk (by rfl) (by rfl) (by rfl) (by rfl) (by rfl) ?_
    | refine W_load_box 1 TOk (by rfl) (by rfl) (by rfl) (by rfl) (by rfl) ?_
    | refine W_load_box 2 TOk (by rfl) (by rfl) (by rfl) (by rfl) (by rfl) ?_
    | refine W_load_box 3 TOk (by rfl) (by rfl) (by rfl) (by rfl) (by rfl) ?_
    | refine W_load_box 4 TOk (by rfl) (by rfl) (by rfl) (by rfl) (by rfl) ?_
    | refine W_load_box 5 TOk (by rfl) (by rfl) (by rfl) (by rfl) (by rfl) ?_
    | refine W_load_box 6 TOk (by rfl) (by rfl) (by rfl) (by rfl) (by rfl) ?_
    | refine W_load_box 7 TOk (by rfl) (by rfl) (by rfl) (by rfl) (by rfl) ?_
    | refine W_load_boxN 0 TOk (by rfl) (by rfl) (by rfl) (by rfl) (by rfl) ?_
    | refine W_load_boxN 1 TOk (by rfl) (by rfl) (by rfl) (by rfl) (by rfl) ?_
    | refine W_load_boxN 2 TOk (by rfl) (by rfl) (by rfl) (by rfl) (by rfl) ?_
    | refine W_load_boxN 3 TOk (by rfl) (by rfl) (by rfl) (by rfl) (by rfl) ?_
    | refine W_load_boxN 4 TOk (by rfl) (by rfl) (by rfl) (by rfl) (by rfl) ?_
    | refine W_load_boxN 5 TOk (by rfl) (by rfl) (by rfl) (by rfl) (by rfl) ?_
    | refine W_load_boxN 6 TOk (by rfl) (by rfl) (by rfl) (by rfl) (by rfl) ?_
    | refine W_load_boxN 7 TOk (by rfl) (by rfl) (by rfl) (by rfl) (by rfl) ?_
    | (refine W_store_box 0 TOk (by rfl) (by rfl) (by rfl) (by rfl) (by rfl) (by rfl) ?_; dsimp only [setL, putL, vcells])
    | (refine W_store_box 1 TOk (by rfl) (by rfl) (by rfl) (by rfl) (by rfl) (by rfl) ?_; dsimp only [setL, putL, vcells])
    | (refine W_store_box 2 TOk (by rfl) (by rfl) (by rfl) (by rfl) (by rfl) (by rfl) ?_; dsimp only [setL, putL, vcells])
    | (refine W_store_box 3 TOk (by rfl) (by rfl) (by rfl) (by rfl) (by rfl) (by rfl) ?_; dsimp only [setL, putL, vcells])
    | (refine W_store_box 4 TOk (by rfl) (by rfl) (by rfl) (by rfl) (by rfl) (by rfl) ?_; dsimp only [setL, putL, vcells])
    | (refine W_store_box 5 TOk (by rfl) (by rfl) (by rfl) (by rfl) (by rfl) (by rfl) ?_; dsimp only [setL, putL, vcells])
    | (refine W_store_box 6 TOk (by rfl) (by rfl) (by rfl) (by rfl) (by rfl) (by rfl) ?_; dsimp only [setL, putL, vcells])
    | (refine W_store_box 7 TOk (by rfl) (by rfl) (by rfl) (by rfl) (by rfl) (by rfl) ?_; dsimp only [setL, putL, vcells])
  have hflat : (ss.take q ++ ts ++ ss.drop (k + 1)).flatten = ss.flatten.take f ++ lens row ++ ss.flatten.drop t := by
    rw [List.flatten_append, List.flatten_append, htf, fa1, fb2, ← hall]
    simp [List.append_assoc]
  have hlen : (ss.take q ++ ts ++ ss.drop (k + 1)).length = q + ts.length + (ss.length - (k + 1)) := by rw [List.length_append, List.length_append, htq, hdk]
  have hcnt : (((ss.flatten.take f ++ lens row ++ ss.flatten.drop t).length : Nat) : Int) = (nn : Int) + (((lens row).length : Int) - ((t : Int) - (f : Int))) := by
    simp only [List.length_append, List.length_take, List.length_drop]; omega
  have hv3 : (vs.take q ++ us ++ vs.drop (k + 1)).length = (ss.take q ++ ts ++ ss.drop (k + 1)).length := by simp [hvl, hul]
  have hbc : blkC (vs.take q ++ us ++ vs.drop (k + 1)) (ss.take q ++ ts ++ ss.drop (k + 1)) = blkC (vs.take q) (ss.take q) ++ blkC us ts ++ blkC (vs.drop (k + 1)) (ss.drop (k + 1)) := by
    rw [blkC_app (by simp [hvl, hul]), blkC_app htv]
  refine W_endT (vs := []) trivial ?_ ⟨rfl, A8, c8, ss.take q ++ ts ++ ss.drop (k + 1), hflat, ?_, rfl⟩
  · rw [hcnt, hlen]
    refine (Ent.drop1 _ _).trans ((Ent.pk 6 (by rfl)).trans (Ent.cons _ ?_))
    refine Ent.trans ?_ (Ent.blocks_in hv3 Lf)
    rw [hbc, hlen]
    refine (Ent.pk 1 (by rfl)).trans (Ent.cons _ ?_)
    refine (Ent.pk 4 (by rfl)).trans ((Ent.sizes_mid hvl hul (by omega) _).trans (Ent.cons _ ?_))
    exact (Ent.drop2 _ _ _).trans (Ent.drop1 _ _)
  · intro s hs
    rcases List.mem_append.1 hs with hs | hs
    · rcases List.mem_append.1 hs with hs | hs
      · exact hne s (List.mem_of_mem_take hs)
      · exact htn s hs
    · exact hne s (List.mem_of_mem_drop hs)
end Go.Proofs.Ytdfibmbedjpcgaa
