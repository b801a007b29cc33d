/- The document's text, read: a place, its offset, an offset's place. -/
import Derived.Test.YtdfibmbedjpcgaaLo
set_option linter.unusedVariables false
set_option linter.unusedSimpArgs false
namespace Go.Proofs.Ytdfibmbedjpcgaa
open Go Go.RowKit Eng Ls
attribute [local irreducible] Eng.W

structure RefAt (w : World) (b : Nat) (L : List (List Int)) : Prop where
  ex : ∃ A c, BoxAt w b [.slice A L.length c] ∧ RowsAt w A L ∧ L.length ≤ c
theorem RefAt.below {w w' : World} {b : Nat} {L : List (List Int)} (h : RefAt w b L) (hb : Below w.heap.size w w') : RefAt w' b L := by
  obtain ⟨A, c, h1, h2, h3⟩ := h.ex
  exact ⟨A, c, h1.below hb, h2.below hb, h3⟩
theorem rowsA_cells {vs : List Value} {xss : List (List Int)} {w : World} {S : Nat → Prop} (h : (rowsA vs xss).A w S) (hl : vs.length = xss.length) :
    ∀ (q : Nat) xs, xss[q]? = some xs → ∃ B c, vs[q]? = some (.slice B xs.length c) ∧ xs.length ≤ c ∧ Cells w B (i32s xs) := fun q xs hq => by
  have hlt : q < vs.length := by rw [hl]; exact (List.getElem?_eq_some_iff.1 hq).1
  obtain ⟨S1, g⟩ := HpS.nth q (a := rowA vs[q] xs) (seps_A.1 (show (seps _).A w S from h)) (by rw [List.getElem?_zipWith, List.getElem?_eq_getElem hlt, hq])
  obtain ⟨B, c', e, g2⟩ := rowA_A.1 g
  have g3 := (own_A.1 g2).1
  exact ⟨B, c', by rw [List.getElem?_eq_getElem hlt, e], (g3.length).2.1, g3.cells⟩
theorem refAt {B : Nat} {w : World} {M : List Ast} (i : Nat) (h : Hp B w M) {b : Nat} {L : List (List Int)} (hi : M[i]? = some (refA b L)) : RefAt w b L := by
  obtain ⟨S, hS, _⟩ := h.nth i hi
  obtain ⟨⟨A, c, vs⟩, h1⟩ := exA_A.1 hS
  obtain ⟨h2, h3⟩ := andA_A.1 h1
  obtain ⟨_, _, g1, ⟨_, _, g2, ⟨_, _, g3, _⟩, _⟩, _⟩ := seps_A.1 h3
  obtain ⟨k1, k2, k3⟩ := own_at g2
  exact ⟨A, c, BoxAt.of g1, ⟨vs, k1, h2, rowsA_cells g3 h2⟩, k2⟩

theorem row_siz {x : List Int} {i : Nat} (h : i < (lens x).length) : (rw_ (splitL x) (i : Int)).length = siz x i := by
  have h1 := splitL_line i x h
  have h2 := siz_le h
  have h3 := rw_get (xss := splitL x) (i := (i : Int)) (by omega) (by rw [← lens_splitL]; omega)
  rw [show ((i : Int)).toNat = i by omega, h1] at h3
  rw [← Option.some.inj h3]
  exact cut_eq h2
theorem runes_split (x : List Int) : runes (splitL x) = x.length := by rw [← joinL_length, joinL_splitL]
theorem lin_split {xss : List (List Int)} (h : plainL xss = true) : lin xss = splitL (joinL xss) := by
  unfold lin
  split
  · rename_i e; subst e; rfl
  · rename_i e; rw [splitL_joinL _ e h]

def thereS (L : List (List Int)) (l c : Int) : Bool := decide (0 ≤ l ∧ l < L.length ∧ 0 ≤ c ∧ c ≤ (rw_ L l).length)
set_option maxRecDepth 10000 in
set_option maxHeartbeats 1000000 in
theorem There_c (w : World) (A : Option Addr) (c0 : Nat) (L : List (List Int)) (hl : RowsAt w A L) (l c : Int) : Val Try.prog 134 [.slice A L.length c0, pos l c] w (.bool (thereS L l c)) := by
  refine enterF Try.func134 rfl Try.ntmps134 rfl rfl ?_
  repeat first | refine W_seq ?_ | refine W_region (by rfl) ?_
  refine W_box (cs := [_, _]) (by rfl) (by rfl) (by rfl) (fun b3 => ?_)
  repeat first | refine W_seq ?_ | refine W_opsnil ?_ | refine W_pure TOk (by rfl) (by first | trivial | (simp only [okI, and_true, true_and, and_self] <;> omega) | omega) ?_
  have hno : ¬ (0 ≤ l ∧ l < L.length ∧ 0 ≤ c ∧ c ≤ (rw_ L l).length) → thereS L l c = false := fun h => by unfold thereS; rw [decide_eq_false h]
  refine W_draw (fun w1 => St _ _ w1 _) [] [(0, 0), (1, 0), (2, 0), (3, 0), (4, 0), (5, 0), (6, 0), (7, 0), (8, 0), (9, 0), (10, 0), (11, 0), (12, 0), (13, 0), (14, 0), (15, 0), (16, 0), (17, 0), (18, 0), (19, 0), (20, 0), (21, 0), (22, 0), (23, 0), (24, 0), (25, 0), (26, 0)] (by kernel_rfl) (fun _ h => h) (by rfl) (by kernel_rfl) (fun hB => ?_)
  repeat first | refine D_pure1 TOk (by kernel_rfl) hB (by rfl) (by rfl) (by rfl) (by rfl) (by first | trivial | (simp only [okI, and_true, true_and, and_self] <;> omega) | omega) (fun hB => ?_) | refine D_load_box 0 TOk (by kernel_rfl) hB (by rfl) (by rfl) (by rfl) (by rfl) (by rfl) (fun _ h => h) (by rfl) (by rfl) (fun hB => ?_)
  refine W_dec 8 (by rfl) (fun h1 => ?_) (fun h1 => ?_)
  · have h1 := of_decide_eq_true h1
    repeat first | refine D_pure1 TOk (by kernel_rfl) hB (by rfl) (by rfl) (by rfl) (by rfl) (by first | trivial | (simp only [okI, and_true, true_and, and_self] <;> omega) | omega) (fun hB => ?_) | refine D_load_box 0 TOk (by kernel_rfl) hB (by rfl) (by rfl) (by rfl) (by rfl) (by rfl) (fun _ h => h) (by rfl) (by rfl) (fun hB => ?_)
    refine W_dec 15 (by rfl) (fun h2 => ?_) (fun h2 => ?_)
    · have h2 := of_decide_eq_true h2
      repeat first | refine D_pure1 TOk (by kernel_rfl) hB (by rfl) (by rfl) (by rfl) (by rfl) (by first | trivial | (simp only [okI, and_true, true_and, and_self] <;> omega) | omega) (fun hB => ?_) | refine D_load_box 0 TOk (by kernel_rfl) hB (by rfl) (by rfl) (by rfl) (by rfl) (by rfl) (fun _ h => h) (by rfl) (by rfl) (fun hB => ?_)
      refine W_dec 20 (by rfl) (fun h3 => ?_) (fun h3 => ?_)
      · have h3 := of_decide_eq_true h3
        obtain ⟨B, cB, hcB, hB_, hvs⟩ := hl.row h1 h2
        repeat first | refine D_pure1 TOk (by kernel_rfl) hB (by rfl) (by rfl) (by rfl) (by rfl) (by first | trivial | (simp only [okI, and_true, true_and, and_self] <;> omega) | omega) (fun hB => ?_) | refine D_load_box 0 TOk (by kernel_rfl) hB (by rfl) (by rfl) (by rfl) (by rfl) (by rfl) (fun _ h => h) (by rfl) (by rfl) (fun hB => ?_)
        refine D_index TOk (by kernel_rfl) hB (by rfl) (by rfl) (fun _ h => h) (fun _ h => h) (by rfl) (by rfl) (by rfl) (by first | exact es48 | exact es22 | exact es136 | exact es150 | exact es223 | exact es29 | exact es132 | exact es207) (by omega) (by omega) (fun w1 hw => (hl.below hw.below).isSome (by omega)) (fun hB => ?_)
        refine D_load TOk (by kernel_rfl) hB (by rfl) (by rfl) (fun _ h => h) (fun _ h => h) (by rfl) (by rfl) (by rfl) (fun w1 hw => cells_elem1 hvs hw.below) (fun hB => ?_)
        repeat first | refine D_pure1 TOk (by kernel_rfl) hB (by rfl) (by rfl) (by rfl) (by rfl) (by first | trivial | (simp only [okI, and_true, true_and, and_self] <;> omega) | omega) (fun hB => ?_) | refine D_done hB ?_
        refine W_retF (vs := [_]) ⟨rfl, trivial⟩ (Ent.nil _) ⟨?_, rfl⟩
        unfold thereS
        simp only [mkR]
        congr 1
        rw [decide_eq_decide]
        exact ⟨fun h => ⟨h1, h2, h3, h⟩, fun h => h.2.2.2⟩
      · have h3 := of_decide_eq_false h3
        repeat first | refine D_pure1 TOk (by kernel_rfl) hB (by rfl) (by rfl) (by rfl) (by rfl) (by first | trivial | (simp only [okI, and_true, true_and, and_self] <;> omega) | omega) (fun hB => ?_) | refine D_off (by kernel_rfl) hB (by rfl) (by rfl) (by rfl) (fun hB => ?_) | refine D_done hB ?_
        exact W_retF (vs := [_]) ⟨rfl, trivial⟩ (Ent.nil _) ⟨by rw [hno (fun h => h3 h.2.2.1)]; rfl, rfl⟩
    · have h2 := of_decide_eq_false h2
      repeat first | refine D_pure1 TOk (by kernel_rfl) hB (by rfl) (by rfl) (by rfl) (by rfl) (by first | trivial | (simp only [okI, and_true, true_and, and_self] <;> omega) | omega) (fun hB => ?_) | refine D_off (by kernel_rfl) hB (by rfl) (by rfl) (by rfl) (fun hB => ?_) | refine D_done hB ?_
      exact W_retF (vs := [_]) ⟨rfl, trivial⟩ (Ent.nil _) ⟨by rw [hno (fun h => h2 h.2.1)]; rfl, rfl⟩
  · have h1 := of_decide_eq_false h1
    repeat first | refine D_pure1 TOk (by kernel_rfl) hB (by rfl) (by rfl) (by rfl) (by rfl) (by first | trivial | (simp only [okI, and_true, true_and, and_self] <;> omega) | omega) (fun hB => ?_) | refine D_off (by kernel_rfl) hB (by rfl) (by rfl) (by rfl) (fun hB => ?_) | refine D_done hB ?_
    exact W_retF (vs := [_]) ⟨rfl, trivial⟩ (Ent.nil _) ⟨by rw [hno (fun h => h1 h.1)]; rfl, rfl⟩
theorem there_off {x : List Int} {l c : Int} : thereS (splitL x) l c = decide ((offS x l c).2 = 0) := by
  unfold thereS
  have hl := lens_splitL x
  by_cases h : 0 ≤ l ∧ l < (lens x).length ∧ 0 ≤ c ∧ c ≤ rd (lens x) l
  · obtain ⟨h1, h2, h3, h4⟩ := h
    obtain ⟨k, rfl⟩ : ∃ k : Nat, l = (k : Int) := ⟨l.toNat, by omega⟩
    have h5 := row_siz (x := x) (i := k) (by omega)
    rw [rd_siz] at h4
    rw [decide_eq_true (show _ ∧ _ from ⟨h1, by omega, h3, by omega⟩)]
    unfold offS
    rw [if_pos ⟨h1, h2, h3, by rw [rd_siz]; exact h4⟩]
    rfl
  · rw [decide_eq_false (fun h' => h ⟨h'.1, by omega, h'.2.2.1, by
      obtain ⟨k, rfl⟩ : ∃ k : Nat, l = (k : Int) := ⟨l.toNat, by omega⟩
      rw [rd_siz, ← row_siz (by omega)]; exact h'.2.2.2⟩)]
    unfold offS
    rw [if_neg h]
    rfl
set_option maxRecDepth 10000 in
set_option maxHeartbeats 1000000 in
theorem RefOffset_c (w : World) (b : Nat) (x : List Int) (l c : Int) (h : RefAt w b (splitL x)) (hx : x.length ≤ 65536) : Val Try.prog 59 [.pointer (some ⟨b, 0, none⟩), pos l c] w (.tuple #[.int .i64 (offS x l c).1, .int .i64 (offS x l c).2]) := by
  obtain ⟨A, c0, h1, h2, h3⟩ := h.ex
  have hls := lens_splitL x
  have hll := lens_le x
  have hob := offS_bound x l c
  refine enterF Try.func59 rfl Try.ntmps59 rfl rfl ?_
  repeat first | refine W_seq ?_ | refine W_region (by rfl) ?_
  refine W_box (cs := [_, _]) (by rfl) (by rfl) (by rfl) (fun b3 => ?_)
  repeat first | refine W_seq ?_ | refine W_opsnil ?_ | refine W_pure TOk (by rfl) (by first | trivial | (simp only [okI, and_true, true_and, and_self] <;> omega) | omega) ?_
  refine W_draw (fun w1 => St _ _ w1 _) [] [(0, 0), (1, 0), (2, 0), (3, 0), (4, 0), (5, 1), (6, 0)] (by kernel_rfl) (fun _ h => h) (by rfl) (by kernel_rfl) (fun hB => ?_)
  repeat first | refine D_pure TOk (by kernel_rfl) hB (by rfl) (by rfl) (by first | trivial | (simp only [okI, and_true, true_and, and_self] <;> omega) | omega) (fun hB => ?_)
  refine D_load TOk (by kernel_rfl) hB (by rfl) (by rfl) (fun _ h => h) (fun _ h => h) (by rfl) (by rfl) (by rfl) (fun w1 hw => boxAt_cell h1 rfl hw.below) (fun hB => ?_)
  repeat first | refine D_load_boxN 0 TOk (by kernel_rfl) hB (by rfl) (by rfl) (by rfl) (by rfl) (by rfl) (by rfl) (fun _ h => h) (by rfl) (fun hB => ?_)
  refine D_one hB (by rfl) (fun hB => ?_)
  refine W_callV (by rfl) Try.call134 (by rfl) (fun w1 hw => There_c w1 A c0 (splitL x) (h2.below hw.below) l c) ?_
  rw [there_off]
  repeat first | refine W_opsnil ?_
  repeat first | refine D_pure TOk (by kernel_rfl) hB (by rfl) (by rfl) (by first | trivial | (simp only [okI, and_true, true_and, and_self] <;> omega) | omega) (fun hB => ?_) | refine D_done hB ?_ | refine D_shown (fun _ h => h) ?_
  refine W_cond_nd (by rfl) (fun hn => ?_) (fun hz => ?_)
  · repeat first | refine W_seq ?_ | refine W_region (by rfl) ?_ | refine W_opsnil ?_ | refine W_pure TOk (by rfl) (by first | trivial | (simp only [okI, and_true, true_and, and_self] <;> omega) | omega) ?_
    have e : offS x l c = (0, 2) := by
      unfold offS at hn ⊢
      split
      · rename_i hc; rw [if_pos hc] at hn; exact absurd rfl hn
      · rfl
    rw [e]
    exact W_retF (vs := [_, _]) ⟨rfl, rfl, trivial⟩ (Ent.nil _) ⟨rfl, rfl⟩
  · obtain ⟨g1, g2, g3, g4, g5, g6, g7⟩ := offS_zero hz
    obtain ⟨k, rfl⟩ : ∃ k : Nat, l = (k : Int) := ⟨l.toNat, by omega⟩
    have hbk := beg_mono x (show k ≤ (lens x).length by omega)
    have hbs : startS x (k : Int) = (beg x k : Int) := beg_start x k
    repeat first | refine W_seq ?_ | refine W_skip ?_ | refine W_block ?_ | refine W_region (by rfl) ?_ | refine W_opsnil ?_ | refine W_pure TOk (by rfl) (by first | trivial | (simp only [okI, and_true, true_and, and_self] <;> omega) | omega) ?_ | refine W_load_box 0 TOk (by rfl) (by rfl) (by rfl) (by rfl) (by rfl) ?_
    refine W_loop (ι := Nat) (fun i => [(0, .pointer (some ⟨b, 0, none⟩)), (3, .pointer (some ⟨b3, 0, none⟩)), (6, .int .i64 (c + (beg x i : Nat))), (7, .int .i64 (i : Nat))]) (fun _ => [box b3 43 [.int .i64 (k : Nat), .int .i64 c]])
      (fun i => i ≤ k) (fun i => k - i) 0 (by omega) ⟨rfl, rfl, ?_, rfl, trivial⟩ (Ent.refl _) ?_
    · rw [beg_zero]
      show some (Value.int _ _) = some (Value.int _ _)
      congr 2; omega
    intro i hi
    repeat first | refine W_seq ?_ | refine W_region (by rfl) ?_ | refine W_opsnil ?_ | refine W_pure TOk (by rfl) (by first | trivial | (simp only [okI, and_true, true_and, and_self] <;> omega) | omega) ?_ | refine W_load_box 0 TOk (by rfl) (by rfl) (by rfl) (by rfl) (by rfl) ?_
    refine W_cond_d (by rfl) (fun hlt => ?_) (fun hge => ?_)
    · have hbi := beg_snoc (x := x) (i := i) (by omega)
      have hrs := row_siz (x := x) (i := i) (by omega)
      have hbm := beg_mono x (show i + 1 ≤ k by omega)
      obtain ⟨B, cB, hcB, hB_, hvs⟩ := h2.row (i := (i : Int)) (by omega) (by omega)
      repeat first | refine W_seq ?_ | refine W_skip ?_ | refine W_block ?_ | refine W_region (by rfl) ?_ | refine W_pure TOk (by rfl) (by first | trivial | (simp only [okI, and_true, true_and, and_self] <;> omega) | omega) ?_
      refine W_load TOk (by rfl) (by rfl) (by rfl) (fun w1 hw => boxAt_cell h1 rfl hw.below) ?_
      repeat first | refine W_pure TOk (by rfl) (by first | trivial | (simp only [okI, and_true, true_and, and_self] <;> omega) | omega) ?_
      refine W_index TOk (by rfl) (by rfl) (by rfl) (by first | exact es48 | exact es22 | exact es136 | exact es150 | exact es223 | exact es29 | exact es132 | exact es207) (by omega) (by omega) (fun w1 hw => (h2.below hw.below).isSome (by omega)) ?_
      refine W_load TOk (by rfl) (by rfl) (by rfl) (fun w1 hw => cells_elem1 hvs hw.below) ?_
      repeat first | refine W_blk ?_ | refine W_region (by rfl) ?_ | refine W_opsnil ?_ | refine W_pure TOk (by rfl) (by first | trivial | (simp only [okI, and_true, true_and, and_self] <;> omega) | omega) ?_
      refine W_inv (i + 1) (by omega) (by omega) ⟨rfl, rfl, ?_, rfl, trivial⟩ (Ent.refl _)
      rw [hbi]
      show some (Value.int _ _) = some (Value.int _ _)
      congr 2; omega
    · have hik : i = k := by omega
      subst hik
      repeat first | refine W_seq ?_ | refine W_exit (by rfl) ?_ | refine W_region (by rfl) ?_ | refine W_opsnil ?_ | refine W_pure TOk (by rfl) (by first | trivial | (simp only [okI, and_true, true_and, and_self] <;> omega) | omega) ?_
      refine W_retF (vs := [_, _]) ⟨rfl, rfl, trivial⟩ (Ent.nil _) ⟨?_, rfl⟩
      show Value.tuple #[.int .i64 _, .int .i64 0] = _
      rw [hz, g5, hbs]
      congr 3
      congr 1
      omega
set_option maxRecDepth 10000 in
set_option maxHeartbeats 1000000 in
theorem RefPlace_c (w : World) (b : Nat) (x : List Int) (n : Int) (h : RefAt w b (splitL x)) (hx : x.length ≤ 65536) : Val Try.prog 70 [.pointer (some ⟨b, 0, none⟩), .int .i64 n] w (.tuple #[pos (placeS x n).1.1 (placeS x n).1.2, .int .i64 (placeS x n).2]) := by
  obtain ⟨A, c0, h1, h2, h3⟩ := h.ex
  have hls := lens_splitL x
  have hll := lens_le x
  have hlp := lens_pos x
  have hts := tot_split x
  refine enterF Try.func70 rfl Try.ntmps70 rfl rfl ?_
  repeat first | refine W_seq ?_ | refine W_region (by rfl) ?_
  refine W_alloc (cs := [_, _]) TOk (by rfl) (by rfl) (fun b4 => ?_)
  repeat first | refine W_seq ?_ | refine W_region (by rfl) ?_ | refine W_opsnil ?_ | refine W_pure TOk (by rfl) (by first | trivial | (simp only [okI, and_true, true_and, and_self] <;> omega) | omega) ?_
  have hbad : ¬ (0 ≤ n ∧ n ≤ x.length) → placeS x n = ((0, 0), 2) := fun h => by unfold placeS; rw [if_neg h]
  refine W_dec 9 (by rfl) (fun hd => ?_) (fun hd => ?_)
  · have hn := of_decide_eq_true hd
    repeat first | refine W_seq ?_ | refine W_region (by rfl) ?_ | refine W_opsnil ?_ | refine W_pure TOk (by rfl) (by first | trivial | (simp only [okI, and_true, true_and, and_self] <;> omega) | omega) ?_ | refine W_off (by rfl) (by rfl) (by rfl) (by rfl) (by rfl) ?_ | refine W_cond_t (by rfl) ?_ | (refine W_store_box 0 TOk (by rfl) (by rfl) (by rfl) (by rfl) (by rfl) (by rfl) ?_; dsimp only [setL, putL, vcells])
    rw [hbad (by omega)]
    exact W_retF (vs := [_, _]) ⟨rv_box 0 TOk rfl rfl rfl, rfl, trivial⟩ (Ent.nil _) ⟨rfl, rfl⟩
  · have hn := of_decide_eq_false hd
    repeat first | refine W_pure TOk (by rfl) (by first | trivial | (simp only [okI, and_true, true_and, and_self] <;> omega) | omega) ?_ | refine W_on (by rfl) (by rfl) (by rfl) ?_
    refine W_load TOk (by rfl) (by rfl) (by rfl) (fun w1 hw => boxAt_cell h1 rfl hw.below) ?_
    repeat first | refine W_on (by rfl) (by rfl) (by rfl) ?_
    refine W_callV (by rfl) Try.call103 (by rfl) (fun w1 hw => RRunes_c w1 A c0 (splitL x) (h2.below hw.below) (by omega)) ?_
    rw [runes_split]
    repeat first | refine W_opsnil ?_ | refine W_pure TOk (by rfl) (by first | trivial | (simp only [okI, and_true, true_and, and_self] <;> omega) | omega) ?_ | refine W_on (by rfl) (by rfl) (by rfl) ?_
    refine W_cond_d (by rfl) (fun hgt => ?_) (fun hle => ?_)
    · repeat first | refine W_seq ?_ | refine W_region (by rfl) ?_ | refine W_opsnil ?_ | refine W_pure TOk (by rfl) (by first | trivial | (simp only [okI, and_true, true_and, and_self] <;> omega) | omega) ?_ | (refine W_store_box 0 TOk (by rfl) (by rfl) (by rfl) (by rfl) (by rfl) (by rfl) ?_; dsimp only [setL, putL, vcells])
      rw [hbad (by omega)]
      exact W_retF (vs := [_, _]) ⟨rv_box 0 TOk rfl rfl rfl, rfl, trivial⟩ (Ent.nil _) ⟨rfl, rfl⟩
    · obtain ⟨N, rfl⟩ : ∃ N : Nat, n = (N : Int) := ⟨n.toNat, by omega⟩
      repeat first | refine W_seq ?_ | refine W_skip ?_ | refine W_block ?_ | refine W_region (by rfl) ?_ | refine W_opsnil ?_ | refine W_pure TOk (by rfl) (by first | trivial | (simp only [okI, and_true, true_and, and_self] <;> omega) | omega) ?_
      refine W_loop (ι := Nat) (fun i => [(0, .pointer (some ⟨b, 0, none⟩)), (4, .pointer (some ⟨b4, 0, none⟩)), (1, .int .i64 ((N : Int) - (beg x i : Nat))), (6, .int .i64 (i : Nat))]) (fun _ => [box b4 43 [.int .i64 0, .int .i64 0]])
        (fun i => i < (lens x).length ∧ beg x i ≤ N) (fun i => x.length + 1 - i) 0 ⟨by omega, by rw [beg_zero]; omega⟩ ⟨rfl, rfl, ?_, rfl, trivial⟩ (Ent.refl _) ?_
      · rw [beg_zero]
        show some (Value.int _ _) = some (Value.int _ _)
        congr 2
      rintro i ⟨hi, hbi⟩
      have hrs := row_siz (x := x) (i := i) (by omega)
      have hss := siz_le hi
      obtain ⟨B, cB, hcB, hB_, hvs⟩ := h2.row (i := (i : Int)) (by omega) (by omega)
      repeat first | refine W_seq ?_ | refine W_region (by rfl) ?_ | refine W_pure TOk (by rfl) (by first | trivial | (simp only [okI, and_true, true_and, and_self] <;> omega) | omega) ?_
      refine W_load TOk (by rfl) (by rfl) (by rfl) (fun w1 hw => boxAt_cell h1 rfl hw.below) ?_
      repeat first | refine W_pure TOk (by rfl) (by first | trivial | (simp only [okI, and_true, true_and, and_self] <;> omega) | omega) ?_
      refine W_index TOk (by rfl) (by rfl) (by rfl) (by first | exact es48 | exact es22 | exact es136 | exact es150 | exact es223 | exact es29 | exact es132 | exact es207) (by omega) (by omega) (fun w1 hw => (h2.below hw.below).isSome (by omega)) ?_
      refine W_load TOk (by rfl) (by rfl) (by rfl) (fun w1 hw => cells_elem1 hvs hw.below) ?_
      repeat first | refine W_opsnil ?_ | refine W_pure TOk (by rfl) (by first | trivial | (simp only [okI, and_true, true_and, and_self] <;> omega) | omega) ?_
      refine W_cond_d (by rfl) (fun hmore => ?_) (fun hin => ?_)
      · have hbn := beg_snoc hi
        have hi1 : i + 1 < (lens x).length := by
          rcases Nat.lt_or_ge (i + 1) (lens x).length with h | h
          · exact h
          · have := beg_all x
            rw [show (lens x).length = i + 1 by omega] at this
            omega
        repeat first | refine W_seq ?_ | refine W_skip ?_ | refine W_block ?_ | refine W_region (by rfl) ?_ | refine W_pure TOk (by rfl) (by first | trivial | (simp only [okI, and_true, true_and, and_self] <;> omega) | omega) ?_
        refine W_load TOk (by rfl) (by rfl) (by rfl) (fun w1 hw => boxAt_cell h1 rfl hw.below) ?_
        repeat first | refine W_pure TOk (by rfl) (by first | trivial | (simp only [okI, and_true, true_and, and_self] <;> omega) | omega) ?_
        refine W_index TOk (by rfl) (by rfl) (by rfl) (by first | exact es48 | exact es22 | exact es136 | exact es150 | exact es223 | exact es29 | exact es132 | exact es207) (by omega) (by omega) (fun w1 hw => (h2.below hw.below).isSome (by omega)) ?_
        refine W_load TOk (by rfl) (by rfl) (by rfl) (fun w1 hw => cells_elem1 hvs hw.below) ?_
        repeat first | refine W_blk ?_ | refine W_region (by rfl) ?_ | refine W_opsnil ?_ | refine W_pure TOk (by rfl) (by first | trivial | (simp only [okI, and_true, true_and, and_self] <;> omega) | omega) ?_
        refine W_inv (i + 1) ⟨hi1, by omega⟩ (by omega) ⟨rfl, rfl, ?_, rfl, trivial⟩ (Ent.refl _)
        rw [hbn]
        show some (Value.int _ _) = some (Value.int _ _)
        congr 2; omega
      · have hpl := placeS_at hi (show N - beg x i ≤ siz x i by omega)
        rw [show beg x i + (N - beg x i) = N by omega] at hpl
        rw [hpl]
        repeat first | refine W_seq ?_ | refine W_exit (by rfl) ?_ | refine W_region (by rfl) ?_ | refine W_opsnil ?_ | refine W_pure TOk (by rfl) (by first | trivial | (simp only [okI, and_true, true_and, and_self] <;> omega) | omega) ?_ | (refine W_store_box 0 TOk (by rfl) (by rfl) (by rfl) (by rfl) (by rfl) (by rfl) ?_; dsimp only [setL, putL, vcells])
        refine W_retF (vs := [_, _]) ⟨rv_box 0 TOk rfl rfl rfl, rfl, trivial⟩ (Ent.nil _) ⟨?_, rfl⟩
        show Value.tuple #[.agg #[.int .i64 _, .int .i64 _], .int .i64 0] = Value.tuple #[.agg #[.int .i64 _, .int .i64 _], .int .i64 0]
        rw [show ((N : Int) - (beg x i : Nat)) = ((N - beg x i : Nat) : Int) by omega]
end Go.Proofs.Ytdfibmbedjpcgaa
