/- The document's New; offsets and places turned; many lines. -/
import Derived.Test.YtdfibmbedjpcgaaS8
set_option linter.unusedVariables false
set_option linter.unusedSimpArgs false
namespace Go.Proofs.Ytdfibmbedjpcgaa
open Go Go.RowKit Eng Ls
attribute [local irreducible] Eng.W

/-! ### The document's text -/
abbrev RefQ := Option Addr × Nat × List Value
def refL (b : Nat) (L : List (List Int)) (q : RefQ) : List Ast := [box b 70 [.slice q.1 L.length q.2.1], own 48 1 q.1 L.length q.2.1 q.2.2, rowsA q.2.2 L]
def refF (b : Nat) (L : List (List Int)) (q : RefQ) : Ast := andA (q.2.2.length = L.length) (seps (refL b L q))
def refA (b : Nat) (L : List (List Int)) : Ast := exA (refF b L)
theorem Ent.ref_in {b : Nat} {L : List (List Int)} (q : RefQ) (h : q.2.2.length = L.length) (M : List Ast) : Ent (refL b L q ++ M) (refA b L :: M) :=
  (Ent.seps_in (refL b L q) M).trans ((Ent.andA_in h _ _).trans (Ent.exA_in (refF b L) q M))
theorem W_ref {X : Cx} {k : List It} {F : Fr} {M : List Ast} {b : Nat} {L : List (List Int)}
    (h : ∀ A c vs, vs.length = L.length → W X k F (box b 70 [.slice A L.length c] :: own 48 1 A L.length c vs :: rowsA vs L :: M)) : W X k F (refA b L :: M) :=
  W_exA fun q => W_andA fun hq => W_seps (h q.1 q.2.1 q.2.2 hq)
def lin (xss : List (List Int)) : List (List Int) := if xss = [] then [[]] else xss
def RefR (xss : List (List Int)) (v : Value) (M : List Ast) : Prop := (okT xss ∧ ∃ b, v = .pointer (some ⟨b, 0, none⟩) ∧ M = [refA b (lin xss)]) ∨ (¬ okT xss ∧ v = .pointer none ∧ M = [])
set_option maxHeartbeats 1000000 in
theorem RefNew_c (w : World) (A0 : Option Addr) (c0 : Nat) (xss : List (List Int)) (hl : RowsAt w A0 xss) (hb : xss.length + tot xss ≤ 1099511627776) :
    Fresh Try.prog 39 [.slice A0 xss.length c0] w (RefR xss) := by
  refine enterF Try.func39 rfl Try.ntmps39 rfl rfl ?_
  repeat first
    | refine W_seq ?_
    | refine W_skip ?_
    | refine W_block ?_
    | refine W_blk ?_
    | refine W_exit (by rfl) ?_
    | refine W_region (by rfl) ?_
    | refine W_opsnil ?_
    | refine W_pure TOk (by rfl) (by first | trivial | (simp only [okI, and_true, true_and, and_self] <;> omega)) ?_
    | refine W_on (by rfl) (by rfl) (by rfl) ?_
    | refine W_off (by rfl) (by rfl) (by rfl) (by rfl) (by rfl) ?_
    | refine W_offU (by rfl) (by rfl) (by rfl) (by rfl) ?_
    | refine W_cond_t (by rfl) ?_
    | refine W_cond_f (by rfl) ?_
  refine W_callV (by rfl) Try.call107 (by rfl) (fun w1 hw => plain_c w1 A0 c0 xss (hl.below hw.below) (by omega)) ?_
  repeat first
    | refine W_seq ?_
    | refine W_skip ?_
    | refine W_block ?_
    | refine W_blk ?_
    | refine W_exit (by rfl) ?_
    | refine W_region (by rfl) ?_
    | refine W_opsnil ?_
    | refine W_pure TOk (by rfl) (by first | trivial | (simp only [okI, and_true, true_and, and_self] <;> omega)) ?_
    | refine W_on (by rfl) (by rfl) (by rfl) ?_
    | refine W_off (by rfl) (by rfl) (by rfl) (by rfl) (by rfl) ?_
    | refine W_offU (by rfl) (by rfl) (by rfl) (by rfl) ?_
    | refine W_cond_t (by rfl) ?_
    | refine W_cond_f (by rfl) ?_
  refine W_dec 7 (by rfl) (fun hp => ?_) (fun hp => ?_)
  · have hp' : plainL xss = false := by simpa using hp
    repeat first
      | refine W_seq ?_
      | refine W_skip ?_
      | refine W_block ?_
      | refine W_blk ?_
      | refine W_exit (by rfl) ?_
      | refine W_region (by rfl) ?_
      | refine W_opsnil ?_
      | refine W_pure TOk (by rfl) (by first | trivial | (simp only [okI, and_true, true_and, and_self] <;> omega)) ?_
      | refine W_on (by rfl) (by rfl) (by rfl) ?_
      | refine W_off (by rfl) (by rfl) (by rfl) (by rfl) (by rfl) ?_
      | refine W_offU (by rfl) (by rfl) (by rfl) (by rfl) ?_
      | refine W_cond_t (by rfl) ?_
      | refine W_cond_f (by rfl) ?_
    exact W_retF (vs := [_]) ⟨rfl, trivial⟩ (Ent.refl _) (.inr ⟨fun h => absurd (hp'.symm.trans h.1) (by decide), rfl, rfl⟩)
  · have hp' : plainL xss = true := by simpa using hp
    repeat first
      | refine W_seq ?_
      | refine W_skip ?_
      | refine W_block ?_
      | refine W_blk ?_
      | refine W_exit (by rfl) ?_
      | refine W_region (by rfl) ?_
      | refine W_opsnil ?_
      | refine W_pure TOk (by rfl) (by first | trivial | (simp only [okI, and_true, true_and, and_self] <;> omega)) ?_
      | refine W_on (by rfl) (by rfl) (by rfl) ?_
      | refine W_off (by rfl) (by rfl) (by rfl) (by rfl) (by rfl) ?_
      | refine W_offU (by rfl) (by rfl) (by rfl) (by rfl) ?_
      | refine W_cond_t (by rfl) ?_
      | refine W_cond_f (by rfl) ?_
    refine W_callV (by rfl) Try.call103 (by rfl) (fun w1 hw => RRunes_c w1 A0 c0 xss (hl.below hw.below) (by omega)) ?_
    repeat first
      | refine W_seq ?_
      | refine W_skip ?_
      | refine W_block ?_
      | refine W_blk ?_
      | refine W_exit (by rfl) ?_
      | refine W_region (by rfl) ?_
      | refine W_opsnil ?_
      | refine W_pure TOk (by rfl) (by first | trivial | (simp only [okI, and_true, true_and, and_self] <;> omega)) ?_
      | refine W_on (by rfl) (by rfl) (by rfl) ?_
      | refine W_off (by rfl) (by rfl) (by rfl) (by rfl) (by rfl) ?_
      | refine W_offU (by rfl) (by rfl) (by rfl) (by rfl) ?_
      | refine W_cond_t (by rfl) ?_
      | refine W_cond_f (by rfl) ?_
    refine W_cond_d (by rfl) (fun hgt => ?_) (fun hle => ?_)
    · repeat first
        | refine W_seq ?_
        | refine W_skip ?_
        | refine W_block ?_
        | refine W_blk ?_
        | refine W_exit (by rfl) ?_
        | refine W_region (by rfl) ?_
        | refine W_opsnil ?_
        | refine W_pure TOk (by rfl) (by first | trivial | (simp only [okI, and_true, true_and, and_self] <;> omega)) ?_
        | refine W_on (by rfl) (by rfl) (by rfl) ?_
        | refine W_off (by rfl) (by rfl) (by rfl) (by rfl) (by rfl) ?_
        | refine W_offU (by rfl) (by rfl) (by rfl) (by rfl) ?_
        | refine W_cond_t (by rfl) ?_
        | refine W_cond_f (by rfl) ?_
      exact W_retF (vs := [_]) ⟨rfl, trivial⟩ (Ent.refl _) (.inr ⟨fun h => absurd h.2 (by omega), rfl, rfl⟩)
    · repeat first
        | refine W_seq ?_
        | refine W_skip ?_
        | refine W_block ?_
        | refine W_blk ?_
        | refine W_exit (by rfl) ?_
        | refine W_region (by rfl) ?_
        | refine W_opsnil ?_
        | refine W_pure TOk (by rfl) (by first | trivial | (simp only [okI, and_true, true_and, and_self] <;> omega)) ?_
        | refine W_on (by rfl) (by rfl) (by rfl) ?_
        | refine W_off (by rfl) (by rfl) (by rfl) (by rfl) (by rfl) ?_
        | refine W_offU (by rfl) (by rfl) (by rfl) (by rfl) ?_
        | refine W_cond_t (by rfl) ?_
        | refine W_cond_f (by rfl) ?_
      have hok : okT xss := ⟨hp', by omega⟩
      refine W_call _ (by rfl) Try.call46 (by rfl) (fun w1 hw => Twin_c w1 A0 c0 xss (hl.below hw.below) hb) ?_; rintro _ _ ⟨A1, c1, us, rfl, hus, rfl⟩; dsimp only [List.cons_append, List.nil_append]
      repeat first
        | refine W_seq ?_
        | refine W_skip ?_
        | refine W_block ?_
        | refine W_blk ?_
        | refine W_exit (by rfl) ?_
        | refine W_region (by rfl) ?_
        | refine W_opsnil ?_
        | refine W_pure TOk (by rfl) (by first | trivial | (simp only [okI, and_true, true_and, and_self] <;> omega)) ?_
        | refine W_on (by rfl) (by rfl) (by rfl) ?_
        | refine W_off (by rfl) (by rfl) (by rfl) (by rfl) (by rfl) ?_
        | refine W_offU (by rfl) (by rfl) (by rfl) (by rfl) ?_
        | refine W_cond_t (by rfl) ?_
        | refine W_cond_f (by rfl) ?_
      refine W_cond_d (by rfl) (fun hz => ?_) (fun hnz => ?_)
      · have e : xss = [] := List.eq_nil_of_length_eq_zero (by omega)
        subst e
        repeat first
          | refine W_seq ?_
          | refine W_skip ?_
          | refine W_block ?_
          | refine W_blk ?_
          | refine W_exit (by rfl) ?_
          | refine W_region (by rfl) ?_
          | refine W_opsnil ?_
          | refine W_pure TOk (by rfl) (by first | trivial | (simp only [okI, and_true, true_and, and_self] <;> omega)) ?_
          | refine W_on (by rfl) (by rfl) (by rfl) ?_
          | refine W_off (by rfl) (by rfl) (by rfl) (by rfl) (by rfl) ?_
          | refine W_offU (by rfl) (by rfl) (by rfl) (by rfl) ?_
          | refine W_cond_t (by rfl) ?_
          | refine W_cond_f (by rfl) ?_
        refine W_lit TOk (cs := [_]) (by rfl) (by first | exact sl48 | exact sl22 | exact sl136 | exact sl150 | exact sl223 | exact sl29 | exact sl132 | exact sl207) (by rfl) (by rfl) (by rfl) (by rfl) (fun g1 => ?_)
        repeat first
          | refine W_seq ?_
          | refine W_skip ?_
          | refine W_block ?_
          | refine W_blk ?_
          | refine W_exit (by rfl) ?_
          | refine W_region (by rfl) ?_
          | refine W_opsnil ?_
          | refine W_pure TOk (by rfl) (by first | trivial | (simp only [okI, and_true, true_and, and_self] <;> omega)) ?_
          | refine W_on (by rfl) (by rfl) (by rfl) ?_
          | refine W_off (by rfl) (by rfl) (by rfl) (by rfl) (by rfl) ?_
          | refine W_offU (by rfl) (by rfl) (by rfl) (by rfl) ?_
          | refine W_cond_t (by rfl) ?_
          | refine W_cond_f (by rfl) ?_
        refine W_box (cs := [_]) (by rfl) (by rfl) (by rfl) (fun b => ?_)
        repeat first
          | refine W_seq ?_
          | refine W_skip ?_
          | refine W_block ?_
          | refine W_blk ?_
          | refine W_exit (by rfl) ?_
          | refine W_region (by rfl) ?_
          | refine W_opsnil ?_
          | refine W_pure TOk (by rfl) (by first | trivial | (simp only [okI, and_true, true_and, and_self] <;> omega)) ?_
          | refine W_on (by rfl) (by rfl) (by rfl) ?_
          | refine W_off (by rfl) (by rfl) (by rfl) (by rfl) (by rfl) ?_
          | refine W_offU (by rfl) (by rfl) (by rfl) (by rfl) ?_
          | refine W_cond_t (by rfl) ?_
          | refine W_cond_f (by rfl) ?_
        refine W_retF (vs := [_]) ⟨rfl, trivial⟩ (M := [refA b [[]]]) ?_ (.inl ⟨hok, b, rfl, rfl⟩)
        refine Ent.trans ?_ (Ent.ref_in (some ⟨g1, 0, none⟩, 1, [.slice none 0 0]) rfl [])
        refine Ent.cons _ (Ent.cons _ ((Ent.nil _).trans ?_))
        exact (Ent.own_zero 21 1 none []).trans ((Ent.rowA_in none 0 [] []).trans (Ent.one_seps _ _))
      · repeat first
          | refine W_seq ?_
          | refine W_skip ?_
          | refine W_block ?_
          | refine W_blk ?_
          | refine W_exit (by rfl) ?_
          | refine W_region (by rfl) ?_
          | refine W_opsnil ?_
          | refine W_pure TOk (by rfl) (by first | trivial | (simp only [okI, and_true, true_and, and_self] <;> omega)) ?_
          | refine W_on (by rfl) (by rfl) (by rfl) ?_
          | refine W_off (by rfl) (by rfl) (by rfl) (by rfl) (by rfl) ?_
          | refine W_offU (by rfl) (by rfl) (by rfl) (by rfl) ?_
          | refine W_cond_t (by rfl) ?_
          | refine W_cond_f (by rfl) ?_
        refine W_box (cs := [_]) (by rfl) (by rfl) (by rfl) (fun b => ?_)
        repeat first
          | refine W_seq ?_
          | refine W_skip ?_
          | refine W_block ?_
          | refine W_blk ?_
          | refine W_exit (by rfl) ?_
          | refine W_region (by rfl) ?_
          | refine W_opsnil ?_
          | refine W_pure TOk (by rfl) (by first | trivial | (simp only [okI, and_true, true_and, and_self] <;> omega)) ?_
          | refine W_on (by rfl) (by rfl) (by rfl) ?_
          | refine W_off (by rfl) (by rfl) (by rfl) (by rfl) (by rfl) ?_
          | refine W_offU (by rfl) (by rfl) (by rfl) (by rfl) ?_
          | refine W_cond_t (by rfl) ?_
          | refine W_cond_f (by rfl) ?_
        have e : lin xss = xss := by unfold lin; rw [if_neg (fun h => hnz (by rw [h]; rfl))]
        exact W_retF (vs := [_]) ⟨rfl, trivial⟩ (M := [refA b (lin xss)]) (by rw [e]; exact Ent.ref_in (A1, c1, us) hus []) (.inl ⟨hok, b, rfl, rfl⟩)

/-! ### Offsets and places turned -/
theorem offS_at {x : List Int} {i c : Nat} (hi : i < (lens x).length) (hc : c ≤ siz x i) : offS x i c = (((beg x i + c : Nat) : Int), 0) := by
  have h1 := rd_siz x i
  have h2 := beg_start x i
  unfold offS startS
  rw [if_pos ⟨by omega, by omega, by omega, by omega⟩, h2]
  rfl
theorem placeS_at {x : List Int} {i c : Nat} (hi : i < (lens x).length) (hc : c ≤ siz x i) : placeS x ((beg x i + c : Nat) : Int) = (((i : Int), (c : Int)), 0) := by
  have := siz_le hi
  unfold placeS
  rw [if_pos ⟨by omega, by omega⟩, find_lens hi hc]
set_option maxHeartbeats 2000000 in
theorem TextTurns_c (w : World) (A0 : Option Addr) (c0 : Nat) (xss : List (List Int)) (hl : RowsAt w A0 xss) (hb : xss.length ≤ 300 → tot xss ≤ 36028797018963968) : Val Try.prog 4 [.slice A0 xss.length c0] w (.bool true) := by
  refine enterF Try.func4 rfl Try.ntmps4 rfl rfl ?_
  repeat first
    | refine W_seq ?_
    | refine W_skip ?_
    | refine W_block ?_
    | refine W_blk ?_
    | refine W_exit (by rfl) ?_
    | refine W_region (by rfl) ?_
    | refine W_opsnil ?_
    | refine W_pure TOk (by rfl) (by first | trivial | (simp only [okI, and_true, true_and, and_self] <;> omega)) ?_
    | refine W_on (by rfl) (by rfl) (by rfl) ?_
    | refine W_off (by rfl) (by rfl) (by rfl) (by rfl) (by rfl) ?_
    | refine W_offU (by rfl) (by rfl) (by rfl) (by rfl) ?_
    | refine W_cond_t (by rfl) ?_
    | refine W_cond_f (by rfl) ?_
  refine W_callV (by rfl) Try.call37 (by rfl) (fun w1 hw => Small_c w1 A0 c0 xss (hl.below hw.below) hb) ?_
  repeat first
    | refine W_seq ?_
    | refine W_skip ?_
    | refine W_block ?_
    | refine W_blk ?_
    | refine W_exit (by rfl) ?_
    | refine W_region (by rfl) ?_
    | refine W_opsnil ?_
    | refine W_pure TOk (by rfl) (by first | trivial | (simp only [okI, and_true, true_and, and_self] <;> omega)) ?_
    | refine W_on (by rfl) (by rfl) (by rfl) ?_
    | refine W_off (by rfl) (by rfl) (by rfl) (by rfl) (by rfl) ?_
    | refine W_offU (by rfl) (by rfl) (by rfl) (by rfl) ?_
    | refine W_cond_t (by rfl) ?_
    | refine W_cond_f (by rfl) ?_
  refine W_cond (by rfl) (fun hs => ?_) (fun hs => ?_)
  · repeat first
      | refine W_seq ?_
      | refine W_skip ?_
      | refine W_block ?_
      | refine W_blk ?_
      | refine W_exit (by rfl) ?_
      | refine W_region (by rfl) ?_
      | refine W_opsnil ?_
      | refine W_pure TOk (by rfl) (by first | trivial | (simp only [okI, and_true, true_and, and_self] <;> omega)) ?_
      | refine W_on (by rfl) (by rfl) (by rfl) ?_
      | refine W_off (by rfl) (by rfl) (by rfl) (by rfl) (by rfl) ?_
      | refine W_offU (by rfl) (by rfl) (by rfl) (by rfl) ?_
      | refine W_cond_t (by rfl) ?_
      | refine W_cond_f (by rfl) ?_
    exact W_retF (vs := [_]) ⟨rfl, trivial⟩ (Ent.refl _) ⟨rfl, rfl⟩
  · have hsm : small xss = true := by simpa using hs
    have hsm2 : xss.length ≤ 300 ∧ runes xss ≤ 3000 := by simpa [small] using hsm
    have hru : runes xss = xss.length - 1 + tot xss := rfl
    repeat first
      | refine W_seq ?_
      | refine W_skip ?_
      | refine W_block ?_
      | refine W_blk ?_
      | refine W_exit (by rfl) ?_
      | refine W_region (by rfl) ?_
      | refine W_opsnil ?_
      | refine W_pure TOk (by rfl) (by first | trivial | (simp only [okI, and_true, true_and, and_self] <;> omega)) ?_
      | refine W_on (by rfl) (by rfl) (by rfl) ?_
      | refine W_off (by rfl) (by rfl) (by rfl) (by rfl) (by rfl) ?_
      | refine W_offU (by rfl) (by rfl) (by rfl) (by rfl) ?_
      | refine W_cond_t (by rfl) ?_
      | refine W_cond_f (by rfl) ?_
    refine W_call _ (by rfl) Try.call38 (by rfl) (fun w1 hw => New_c w1 A0 c0 xss (hl.below hw.below) (by omega)) ?_
    intro v0 M0 hj0
    rcases hj0 with ⟨hp, b, rfl, rfl⟩ | ⟨hp, rfl, rfl⟩ <;> dsimp only [List.cons_append, List.nil_append]
    · have hxl := joinL_length xss
      generalize joinL xss = x at *
      have hlp := lens_pos x
      have hll := lens_le x
      repeat first
        | refine W_seq ?_
        | refine W_skip ?_
        | refine W_block ?_
        | refine W_blk ?_
        | refine W_exit (by rfl) ?_
        | refine W_region (by rfl) ?_
        | refine W_opsnil ?_
        | refine W_pure TOk (by rfl) (by first | trivial | (simp only [okI, and_true, true_and, and_self] <;> omega)) ?_
        | refine W_on (by rfl) (by rfl) (by rfl) ?_
        | refine W_off (by rfl) (by rfl) (by rfl) (by rfl) (by rfl) ?_
        | refine W_offU (by rfl) (by rfl) (by rfl) (by rfl) ?_
        | refine W_cond_t (by rfl) ?_
        | refine W_cond_f (by rfl) ?_
      refine W_alloc (cs := [_, _]) TOk (by rfl) (by rfl) (fun b4 => ?_)
      repeat first
        | refine W_seq ?_
        | refine W_skip ?_
        | refine W_block ?_
        | refine W_blk ?_
        | refine W_exit (by rfl) ?_
        | refine W_region (by rfl) ?_
        | refine W_opsnil ?_
        | refine W_pure TOk (by rfl) (by first | trivial | (simp only [okI, and_true, true_and, and_self] <;> omega)) ?_
        | refine W_on (by rfl) (by rfl) (by rfl) ?_
        | refine W_off (by rfl) (by rfl) (by rfl) (by rfl) (by rfl) ?_
        | refine W_offU (by rfl) (by rfl) (by rfl) (by rfl) ?_
        | refine W_cond_t (by rfl) ?_
        | refine W_cond_f (by rfl) ?_
        | refine W_load_box 0 TOk (by rfl) (by rfl) (by rfl) (by rfl) (by rfl) ?_
        | refine W_load_box 1 TOk (by rfl) (by rfl) (by rfl) (by rfl) (by rfl) ?_
        | refine W_load_boxN 0 TOk (by rfl) (by rfl) (by rfl) (by rfl) (by rfl) ?_
        | refine W_load_boxN 1 TOk (by rfl) (by rfl) (by rfl) (by rfl) (by rfl) ?_
        | (refine W_store_box 0 TOk (by rfl) (by rfl) (by rfl) (by rfl) (by rfl) (by rfl) ?_; dsimp only [setL, putL, vcells])
        | (refine W_store_box 1 TOk (by rfl) (by rfl) (by rfl) (by rfl) (by rfl) (by rfl) ?_; dsimp only [setL, putL, vcells])
      refine W_loop (ι := Nat × Nat × Nat × Int × Int) (fun ⟨k, i, c, li, lc⟩ => [(3, .pointer (some ⟨b, 0, none⟩)), (4, .pointer (some ⟨b4, 0, none⟩)), (5, .int .i64 (k : Nat))]) (fun ⟨k, i, c, li, lc⟩ => [box b4 43 [.int .i64 li, .int .i64 lc], textA b x x.length])
        (fun ⟨k, i, c, li, lc⟩ => i ≤ (lens x).length ∧ c ≤ siz x i ∧ k = beg x i + c ∧ ((0 < c ∧ li = i ∧ lc = (c : Int) - 1) ∨ (c = 0 ∧ i = 0 ∧ li = 0 ∧ lc = -1) ∨ (c = 0 ∧ 0 < i ∧ li = (i : Int) - 1 ∧ lc = (siz x (i - 1) : Nat)))) (fun q => x.length + 2 - q.1) (0, 0, 0, 0, -1)
        ⟨by omega, by omega, by rw [beg_zero], .inr (.inl ⟨rfl, rfl, rfl, rfl⟩)⟩ ⟨rfl, rfl, rfl, trivial⟩ (Ent.refl _) ?_
      rintro ⟨k, i, c, li, lc⟩ ⟨hi, hc, hk, hlast⟩
      dsimp only at hi hc hk hlast ⊢
      repeat first
        | refine W_seq ?_
        | refine W_skip ?_
        | refine W_block ?_
        | refine W_blk ?_
        | refine W_exit (by rfl) ?_
        | refine W_region (by rfl) ?_
        | refine W_opsnil ?_
        | refine W_pure TOk (by rfl) (by first | trivial | (simp only [okI, and_true, true_and, and_self] <;> omega)) ?_
        | refine W_on (by rfl) (by rfl) (by rfl) ?_
        | refine W_off (by rfl) (by rfl) (by rfl) (by rfl) (by rfl) ?_
        | refine W_offU (by rfl) (by rfl) (by rfl) (by rfl) ?_
        | refine W_cond_t (by rfl) ?_
        | refine W_cond_f (by rfl) ?_
      refine W_callV (by rfl) Try.call40 (by rfl) (fun w1 hw => TRunes_c w1 b x (textAt 1 hw.hp rfl)) ?_
      repeat first
        | refine W_seq ?_
        | refine W_skip ?_
        | refine W_block ?_
        | refine W_blk ?_
        | refine W_exit (by rfl) ?_
        | refine W_region (by rfl) ?_
        | refine W_opsnil ?_
        | refine W_pure TOk (by rfl) (by first | trivial | (simp only [okI, and_true, true_and, and_self] <;> omega)) ?_
        | refine W_on (by rfl) (by rfl) (by rfl) ?_
        | refine W_off (by rfl) (by rfl) (by rfl) (by rfl) (by rfl) ?_
        | refine W_offU (by rfl) (by rfl) (by rfl) (by rfl) ?_
        | refine W_cond_t (by rfl) ?_
        | refine W_cond_f (by rfl) ?_
      refine W_cond_d (by rfl) (fun hle => ?_) (fun hgt => ?_)
      · have hil : i < (lens x).length := by
          rcases Nat.lt_or_ge i (lens x).length with h | h
          · exact h
          · have := beg_mono x h
            rw [beg_all] at this
            omega
        have hpl := placeS_at hil hc
        have hof := offS_at hil hc
        have hsz := siz_le hil
        rw [← hk] at hpl hof
        have hsl : 0 < i → siz x (i - 1) ≤ x.length := fun h => by have := siz_le (x := x) (i := i - 1) (by omega); omega
        repeat first
          | refine W_seq ?_
          | refine W_skip ?_
          | refine W_block ?_
          | refine W_blk ?_
          | refine W_exit (by rfl) ?_
          | refine W_region (by rfl) ?_
          | refine W_opsnil ?_
          | refine W_pure TOk (by rfl) (by first | trivial | (simp only [okI, and_true, true_and, and_self] <;> omega)) ?_
          | refine W_on (by rfl) (by rfl) (by rfl) ?_
          | refine W_off (by rfl) (by rfl) (by rfl) (by rfl) (by rfl) ?_
          | refine W_offU (by rfl) (by rfl) (by rfl) (by rfl) ?_
          | refine W_cond_t (by rfl) ?_
          | refine W_cond_f (by rfl) ?_
        refine W_callV (by rfl) Try.call41 (by rfl) (fun w1 hw => Place_c w1 b x k (textAt 1 hw.hp rfl)) ?_
        rw [hpl]
        repeat first
          | refine W_seq ?_
          | refine W_skip ?_
          | refine W_block ?_
          | refine W_blk ?_
          | refine W_exit (by rfl) ?_
          | refine W_region (by rfl) ?_
          | refine W_opsnil ?_
          | refine W_pure TOk (by rfl) (by first | trivial | (simp only [okI, and_true, true_and, and_self] <;> omega)) ?_
          | refine W_on (by rfl) (by rfl) (by rfl) ?_
          | refine W_off (by rfl) (by rfl) (by rfl) (by rfl) (by rfl) ?_
          | refine W_offU (by rfl) (by rfl) (by rfl) (by rfl) ?_
          | refine W_cond_t (by rfl) ?_
          | refine W_cond_f (by rfl) ?_
        refine W_alloc (cs := [_, _]) TOk (by rfl) (by rfl) (fun b6 => ?_)
        repeat first
          | refine W_seq ?_
          | refine W_skip ?_
          | refine W_block ?_
          | refine W_blk ?_
          | refine W_exit (by rfl) ?_
          | refine W_region (by rfl) ?_
          | refine W_opsnil ?_
          | refine W_pure TOk (by rfl) (by first | trivial | (simp only [okI, and_true, true_and, and_self] <;> omega)) ?_
          | refine W_on (by rfl) (by rfl) (by rfl) ?_
          | refine W_off (by rfl) (by rfl) (by rfl) (by rfl) (by rfl) ?_
          | refine W_offU (by rfl) (by rfl) (by rfl) (by rfl) ?_
          | refine W_cond_t (by rfl) ?_
          | refine W_cond_f (by rfl) ?_
          | refine W_load_box 0 TOk (by rfl) (by rfl) (by rfl) (by rfl) (by rfl) ?_
          | refine W_load_box 1 TOk (by rfl) (by rfl) (by rfl) (by rfl) (by rfl) ?_
          | refine W_load_boxN 0 TOk (by rfl) (by rfl) (by rfl) (by rfl) (by rfl) ?_
          | refine W_load_boxN 1 TOk (by rfl) (by rfl) (by rfl) (by rfl) (by rfl) ?_
          | (refine W_store_box 0 TOk (by rfl) (by rfl) (by rfl) (by rfl) (by rfl) (by rfl) ?_; dsimp only [setL, putL, vcells])
          | (refine W_store_box 1 TOk (by rfl) (by rfl) (by rfl) (by rfl) (by rfl) (by rfl) ?_; dsimp only [setL, putL, vcells])
        refine W_callV (by rfl) Try.call42 (by rfl) (fun w1 hw => Offset_c w1 b x i c (textAt 2 hw.hp rfl)) ?_
        rw [hof]
        repeat first
          | refine W_seq ?_
          | refine W_skip ?_
          | refine W_block ?_
          | refine W_blk ?_
          | refine W_exit (by rfl) ?_
          | refine W_region (by rfl) ?_
          | refine W_opsnil ?_
          | refine W_pure TOk (by rfl) (by first | trivial | (simp only [okI, and_true, true_and, and_self] <;> omega)) ?_
          | refine W_on (by rfl) (by rfl) (by rfl) ?_
          | refine W_off (by rfl) (by rfl) (by rfl) (by rfl) (by rfl) ?_
          | refine W_offU (by rfl) (by rfl) (by rfl) (by rfl) ?_
          | refine W_cond_t (by rfl) ?_
          | refine W_cond_f (by rfl) ?_
          | refine W_load_box 0 TOk (by rfl) (by rfl) (by rfl) (by rfl) (by rfl) ?_
          | refine W_load_box 1 TOk (by rfl) (by rfl) (by rfl) (by rfl) (by rfl) ?_
          | refine W_load_boxN 0 TOk (by rfl) (by rfl) (by rfl) (by rfl) (by rfl) ?_
          | refine W_load_boxN 1 TOk (by rfl) (by rfl) (by rfl) (by rfl) (by rfl) ?_
          | (refine W_store_box 0 TOk (by rfl) (by rfl) (by rfl) (by rfl) (by rfl) (by rfl) ?_; dsimp only [setL, putL, vcells])
          | (refine W_store_box 1 TOk (by rfl) (by rfl) (by rfl) (by rfl) (by rfl) (by rfl) ?_; dsimp only [setL, putL, vcells])
        refine W_dec 50 (by rfl) (fun h => by simp at h) (fun _ => ?_)
        repeat first
          | refine W_seq ?_
          | refine W_skip ?_
          | refine W_block ?_
          | refine W_blk ?_
          | refine W_exit (by rfl) ?_
          | refine W_region (by rfl) ?_
          | refine W_opsnil ?_
          | refine W_pure TOk (by rfl) (by first | trivial | (simp only [okI, and_true, true_and, and_self] <;> omega)) ?_
          | refine W_on (by rfl) (by rfl) (by rfl) ?_
          | refine W_off (by rfl) (by rfl) (by rfl) (by rfl) (by rfl) ?_
          | refine W_offU (by rfl) (by rfl) (by rfl) (by rfl) ?_
          | refine W_cond_t (by rfl) ?_
          | refine W_cond_f (by rfl) ?_
          | refine W_load_box 0 TOk (by rfl) (by rfl) (by rfl) (by rfl) (by rfl) ?_
          | refine W_load_box 1 TOk (by rfl) (by rfl) (by rfl) (by rfl) (by rfl) ?_
          | refine W_load_boxN 0 TOk (by rfl) (by rfl) (by rfl) (by rfl) (by rfl) ?_
          | refine W_load_boxN 1 TOk (by rfl) (by rfl) (by rfl) (by rfl) (by rfl) ?_
          | (refine W_store_box 0 TOk (by rfl) (by rfl) (by rfl) (by rfl) (by rfl) (by rfl) ?_; dsimp only [setL, putL, vcells])
          | (refine W_store_box 1 TOk (by rfl) (by rfl) (by rfl) (by rfl) (by rfl) (by rfl) ?_; dsimp only [setL, putL, vcells])
        refine W_dec 57 (by rfl) (fun h => absurd (of_decide_eq_true h) (by omega)) (fun _ => ?_)
        repeat first
          | refine W_seq ?_
          | refine W_skip ?_
          | refine W_block ?_
          | refine W_blk ?_
          | refine W_exit (by rfl) ?_
          | refine W_region (by rfl) ?_
          | refine W_opsnil ?_
          | refine W_pure TOk (by rfl) (by first | trivial | (simp only [okI, and_true, true_and, and_self] <;> omega)) ?_
          | refine W_on (by rfl) (by rfl) (by rfl) ?_
          | refine W_off (by rfl) (by rfl) (by rfl) (by rfl) (by rfl) ?_
          | refine W_offU (by rfl) (by rfl) (by rfl) (by rfl) ?_
          | refine W_cond_t (by rfl) ?_
          | refine W_cond_f (by rfl) ?_
          | refine W_load_box 0 TOk (by rfl) (by rfl) (by rfl) (by rfl) (by rfl) ?_
          | refine W_load_box 1 TOk (by rfl) (by rfl) (by rfl) (by rfl) (by rfl) ?_
          | refine W_load_boxN 0 TOk (by rfl) (by rfl) (by rfl) (by rfl) (by rfl) ?_
          | refine W_load_boxN 1 TOk (by rfl) (by rfl) (by rfl) (by rfl) (by rfl) ?_
          | (refine W_store_box 0 TOk (by rfl) (by rfl) (by rfl) (by rfl) (by rfl) (by rfl) ?_; dsimp only [setL, putL, vcells])
          | (refine W_store_box 1 TOk (by rfl) (by rfl) (by rfl) (by rfl) (by rfl) (by rfl) ?_; dsimp only [setL, putL, vcells])
        refine W_dec 63 (by rfl) (fun h63 => ?_) (fun h63 => ?_)
        · have e63 := of_decide_eq_true h63
          repeat first
            | refine W_seq ?_
            | refine W_skip ?_
            | refine W_block ?_
            | refine W_blk ?_
            | refine W_exit (by rfl) ?_
            | refine W_region (by rfl) ?_
            | refine W_opsnil ?_
            | refine W_pure TOk (by rfl) (by first | trivial | (simp only [okI, and_true, true_and, and_self] <;> omega)) ?_
            | refine W_on (by rfl) (by rfl) (by rfl) ?_
            | refine W_off (by rfl) (by rfl) (by rfl) (by rfl) (by rfl) ?_
            | refine W_offU (by rfl) (by rfl) (by rfl) (by rfl) ?_
            | refine W_cond_t (by rfl) ?_
            | refine W_cond_f (by rfl) ?_
            | refine W_load_box 0 TOk (by rfl) (by rfl) (by rfl) (by rfl) (by rfl) ?_
            | refine W_load_box 1 TOk (by rfl) (by rfl) (by rfl) (by rfl) (by rfl) ?_
            | refine W_load_boxN 0 TOk (by rfl) (by rfl) (by rfl) (by rfl) (by rfl) ?_
            | refine W_load_boxN 1 TOk (by rfl) (by rfl) (by rfl) (by rfl) (by rfl) ?_
            | (refine W_store_box 0 TOk (by rfl) (by rfl) (by rfl) (by rfl) (by rfl) (by rfl) ?_; dsimp only [setL, putL, vcells])
            | (refine W_store_box 1 TOk (by rfl) (by rfl) (by rfl) (by rfl) (by rfl) (by rfl) ?_; dsimp only [setL, putL, vcells])
          refine W_dec 72 (by rfl) (fun h => absurd (of_decide_eq_true (by simpa using h)) (by omega)) (fun _ => ?_)
          repeat first
            | refine W_seq ?_
            | refine W_skip ?_
            | refine W_block ?_
            | refine W_blk ?_
            | refine W_exit (by rfl) ?_
            | refine W_region (by rfl) ?_
            | refine W_opsnil ?_
            | refine W_pure TOk (by rfl) (by first | trivial | (simp only [okI, and_true, true_and, and_self] <;> omega)) ?_
            | refine W_on (by rfl) (by rfl) (by rfl) ?_
            | refine W_off (by rfl) (by rfl) (by rfl) (by rfl) (by rfl) ?_
            | refine W_offU (by rfl) (by rfl) (by rfl) (by rfl) ?_
            | refine W_cond_t (by rfl) ?_
            | refine W_cond_f (by rfl) ?_
            | refine W_load_box 0 TOk (by rfl) (by rfl) (by rfl) (by rfl) (by rfl) ?_
            | refine W_load_box 1 TOk (by rfl) (by rfl) (by rfl) (by rfl) (by rfl) ?_
            | refine W_load_boxN 0 TOk (by rfl) (by rfl) (by rfl) (by rfl) (by rfl) ?_
            | refine W_load_boxN 1 TOk (by rfl) (by rfl) (by rfl) (by rfl) (by rfl) ?_
            | (refine W_store_box 0 TOk (by rfl) (by rfl) (by rfl) (by rfl) (by rfl) (by rfl) ?_; dsimp only [setL, putL, vcells])
            | (refine W_store_box 1 TOk (by rfl) (by rfl) (by rfl) (by rfl) (by rfl) (by rfl) ?_; dsimp only [setL, putL, vcells])
          refine W_dec 78 (by rfl) (fun h => absurd (of_decide_eq_true h) (by omega)) (fun _ => ?_)
          repeat first
            | refine W_seq ?_
            | refine W_skip ?_
            | refine W_block ?_
            | refine W_blk ?_
            | refine W_exit (by rfl) ?_
            | refine W_region (by rfl) ?_
            | refine W_opsnil ?_
            | refine W_pure TOk (by rfl) (by first | trivial | (simp only [okI, and_true, true_and, and_self] <;> omega)) ?_
            | refine W_on (by rfl) (by rfl) (by rfl) ?_
            | refine W_off (by rfl) (by rfl) (by rfl) (by rfl) (by rfl) ?_
            | refine W_offU (by rfl) (by rfl) (by rfl) (by rfl) ?_
            | refine W_cond_t (by rfl) ?_
            | refine W_cond_f (by rfl) ?_
            | refine W_load_box 0 TOk (by rfl) (by rfl) (by rfl) (by rfl) (by rfl) ?_
            | refine W_load_box 1 TOk (by rfl) (by rfl) (by rfl) (by rfl) (by rfl) ?_
            | refine W_load_boxN 0 TOk (by rfl) (by rfl) (by rfl) (by rfl) (by rfl) ?_
            | refine W_load_boxN 1 TOk (by rfl) (by rfl) (by rfl) (by rfl) (by rfl) ?_
            | (refine W_store_box 0 TOk (by rfl) (by rfl) (by rfl) (by rfl) (by rfl) (by rfl) ?_; dsimp only [setL, putL, vcells])
            | (refine W_store_box 1 TOk (by rfl) (by rfl) (by rfl) (by rfl) (by rfl) (by rfl) ?_; dsimp only [setL, putL, vcells])
          by_cases hcs : c < siz x i
          · exact W_inv (k + 1, i, c + 1, (i : Int), (c : Int)) ⟨by dsimp only; omega, by dsimp only; omega, by dsimp only; omega, .inl ⟨by dsimp only; omega, rfl, by dsimp only; omega⟩⟩ (by dsimp only; omega) ⟨rfl, rfl, rfl, trivial⟩ (Ent.drop1 _ _)
          · have hbs := beg_snoc hil
            exact W_inv (k + 1, i + 1, 0, (i : Int), (c : Int)) ⟨by dsimp only; omega, by dsimp only; omega, by dsimp only; omega, .inr (.inr ⟨rfl, by dsimp only; omega, by dsimp only; omega, by dsimp only; rw [Nat.add_sub_cancel]; omega⟩)⟩ (by dsimp only; omega) ⟨rfl, rfl, rfl, trivial⟩ (Ent.drop1 _ _)

        · have e63 := of_decide_eq_false h63
          repeat first
            | refine W_seq ?_
            | refine W_skip ?_
            | refine W_block ?_
            | refine W_blk ?_
            | refine W_exit (by rfl) ?_
            | refine W_region (by rfl) ?_
            | refine W_opsnil ?_
            | refine W_pure TOk (by rfl) (by first | trivial | (simp only [okI, and_true, true_and, and_self] <;> omega)) ?_
            | refine W_on (by rfl) (by rfl) (by rfl) ?_
            | refine W_off (by rfl) (by rfl) (by rfl) (by rfl) (by rfl) ?_
            | refine W_offU (by rfl) (by rfl) (by rfl) (by rfl) ?_
            | refine W_cond_t (by rfl) ?_
            | refine W_cond_f (by rfl) ?_
            | refine W_load_box 0 TOk (by rfl) (by rfl) (by rfl) (by rfl) (by rfl) ?_
            | refine W_load_box 1 TOk (by rfl) (by rfl) (by rfl) (by rfl) (by rfl) ?_
            | refine W_load_boxN 0 TOk (by rfl) (by rfl) (by rfl) (by rfl) (by rfl) ?_
            | refine W_load_boxN 1 TOk (by rfl) (by rfl) (by rfl) (by rfl) (by rfl) ?_
            | (refine W_store_box 0 TOk (by rfl) (by rfl) (by rfl) (by rfl) (by rfl) (by rfl) ?_; dsimp only [setL, putL, vcells])
            | (refine W_store_box 1 TOk (by rfl) (by rfl) (by rfl) (by rfl) (by rfl) (by rfl) ?_; dsimp only [setL, putL, vcells])
          refine W_dec 78 (by rfl) (fun _ => ?_) (fun h => absurd (of_decide_eq_false h) (by omega))
          repeat first
            | refine W_seq ?_
            | refine W_skip ?_
            | refine W_block ?_
            | refine W_blk ?_
            | refine W_exit (by rfl) ?_
            | refine W_region (by rfl) ?_
            | refine W_opsnil ?_
            | refine W_pure TOk (by rfl) (by first | trivial | (simp only [okI, and_true, true_and, and_self] <;> omega)) ?_
            | refine W_on (by rfl) (by rfl) (by rfl) ?_
            | refine W_off (by rfl) (by rfl) (by rfl) (by rfl) (by rfl) ?_
            | refine W_offU (by rfl) (by rfl) (by rfl) (by rfl) ?_
            | refine W_cond_t (by rfl) ?_
            | refine W_cond_f (by rfl) ?_
            | refine W_load_box 0 TOk (by rfl) (by rfl) (by rfl) (by rfl) (by rfl) ?_
            | refine W_load_box 1 TOk (by rfl) (by rfl) (by rfl) (by rfl) (by rfl) ?_
            | refine W_load_boxN 0 TOk (by rfl) (by rfl) (by rfl) (by rfl) (by rfl) ?_
            | refine W_load_boxN 1 TOk (by rfl) (by rfl) (by rfl) (by rfl) (by rfl) ?_
            | (refine W_store_box 0 TOk (by rfl) (by rfl) (by rfl) (by rfl) (by rfl) (by rfl) ?_; dsimp only [setL, putL, vcells])
            | (refine W_store_box 1 TOk (by rfl) (by rfl) (by rfl) (by rfl) (by rfl) (by rfl) ?_; dsimp only [setL, putL, vcells])
          refine W_dec 85 (by rfl) (fun h => absurd (show (i : Int) = li + 1 by omega) (by simpa using h)) (fun _ => ?_)
          repeat first
            | refine W_seq ?_
            | refine W_skip ?_
            | refine W_block ?_
            | refine W_blk ?_
            | refine W_exit (by rfl) ?_
            | refine W_region (by rfl) ?_
            | refine W_opsnil ?_
            | refine W_pure TOk (by rfl) (by first | trivial | (simp only [okI, and_true, true_and, and_self] <;> omega)) ?_
            | refine W_on (by rfl) (by rfl) (by rfl) ?_
            | refine W_off (by rfl) (by rfl) (by rfl) (by rfl) (by rfl) ?_
            | refine W_offU (by rfl) (by rfl) (by rfl) (by rfl) ?_
            | refine W_cond_t (by rfl) ?_
            | refine W_cond_f (by rfl) ?_
            | refine W_load_box 0 TOk (by rfl) (by rfl) (by rfl) (by rfl) (by rfl) ?_
            | refine W_load_box 1 TOk (by rfl) (by rfl) (by rfl) (by rfl) (by rfl) ?_
            | refine W_load_boxN 0 TOk (by rfl) (by rfl) (by rfl) (by rfl) (by rfl) ?_
            | refine W_load_boxN 1 TOk (by rfl) (by rfl) (by rfl) (by rfl) (by rfl) ?_
            | (refine W_store_box 0 TOk (by rfl) (by rfl) (by rfl) (by rfl) (by rfl) (by rfl) ?_; dsimp only [setL, putL, vcells])
            | (refine W_store_box 1 TOk (by rfl) (by rfl) (by rfl) (by rfl) (by rfl) (by rfl) ?_; dsimp only [setL, putL, vcells])
          refine W_cond_nd (by rfl) (fun h => absurd (show (c : Int) = 0 by omega) h) (fun _ => ?_)
          repeat first
            | refine W_seq ?_
            | refine W_skip ?_
            | refine W_block ?_
            | refine W_blk ?_
            | refine W_exit (by rfl) ?_
            | refine W_region (by rfl) ?_
            | refine W_opsnil ?_
            | refine W_pure TOk (by rfl) (by first | trivial | (simp only [okI, and_true, true_and, and_self] <;> omega)) ?_
            | refine W_on (by rfl) (by rfl) (by rfl) ?_
            | refine W_off (by rfl) (by rfl) (by rfl) (by rfl) (by rfl) ?_
            | refine W_offU (by rfl) (by rfl) (by rfl) (by rfl) ?_
            | refine W_cond_t (by rfl) ?_
            | refine W_cond_f (by rfl) ?_
            | refine W_load_box 0 TOk (by rfl) (by rfl) (by rfl) (by rfl) (by rfl) ?_
            | refine W_load_box 1 TOk (by rfl) (by rfl) (by rfl) (by rfl) (by rfl) ?_
            | refine W_load_boxN 0 TOk (by rfl) (by rfl) (by rfl) (by rfl) (by rfl) ?_
            | refine W_load_boxN 1 TOk (by rfl) (by rfl) (by rfl) (by rfl) (by rfl) ?_
            | (refine W_store_box 0 TOk (by rfl) (by rfl) (by rfl) (by rfl) (by rfl) (by rfl) ?_; dsimp only [setL, putL, vcells])
            | (refine W_store_box 1 TOk (by rfl) (by rfl) (by rfl) (by rfl) (by rfl) (by rfl) ?_; dsimp only [setL, putL, vcells])
          by_cases hcs : c < siz x i
          · exact W_inv (k + 1, i, c + 1, (i : Int), (c : Int)) ⟨by dsimp only; omega, by dsimp only; omega, by dsimp only; omega, .inl ⟨by dsimp only; omega, rfl, by dsimp only; omega⟩⟩ (by dsimp only; omega) ⟨rfl, rfl, rfl, trivial⟩ (Ent.drop1 _ _)
          · have hbs := beg_snoc hil
            exact W_inv (k + 1, i + 1, 0, (i : Int), (c : Int)) ⟨by dsimp only; omega, by dsimp only; omega, by dsimp only; omega, .inr (.inr ⟨rfl, by dsimp only; omega, by dsimp only; omega, by dsimp only; rw [Nat.add_sub_cancel]; omega⟩)⟩ (by dsimp only; omega) ⟨rfl, rfl, rfl, trivial⟩ (Ent.drop1 _ _)

      · have hie : i = (lens x).length := by
          rcases Nat.lt_or_ge i (lens x).length with h | h
          · have := siz_le h
            omega
          · omega
        have hc0 : c = 0 := by
          subst hie
          have : siz x (lens x).length = 0 := by simp [siz]
          omega
        have hli : li = ((lens x).length : Int) - 1 := by omega
        repeat first
          | refine W_seq ?_
          | refine W_skip ?_
          | refine W_block ?_
          | refine W_blk ?_
          | refine W_exit (by rfl) ?_
          | refine W_region (by rfl) ?_
          | refine W_opsnil ?_
          | refine W_pure TOk (by rfl) (by first | trivial | (simp only [okI, and_true, true_and, and_self] <;> omega)) ?_
          | refine W_on (by rfl) (by rfl) (by rfl) ?_
          | refine W_off (by rfl) (by rfl) (by rfl) (by rfl) (by rfl) ?_
          | refine W_offU (by rfl) (by rfl) (by rfl) (by rfl) ?_
          | refine W_cond_t (by rfl) ?_
          | refine W_cond_f (by rfl) ?_
          | refine W_load_box 0 TOk (by rfl) (by rfl) (by rfl) (by rfl) (by rfl) ?_
          | refine W_load_box 1 TOk (by rfl) (by rfl) (by rfl) (by rfl) (by rfl) ?_
          | refine W_load_boxN 0 TOk (by rfl) (by rfl) (by rfl) (by rfl) (by rfl) ?_
          | refine W_load_boxN 1 TOk (by rfl) (by rfl) (by rfl) (by rfl) (by rfl) ?_
          | (refine W_store_box 0 TOk (by rfl) (by rfl) (by rfl) (by rfl) (by rfl) (by rfl) ?_; dsimp only [setL, putL, vcells])
          | (refine W_store_box 1 TOk (by rfl) (by rfl) (by rfl) (by rfl) (by rfl) (by rfl) ?_; dsimp only [setL, putL, vcells])
        refine W_draw (fun w1 => St _ _ w1 _) [7] [(0, 0), (1, 0), (2, 0), (3, 1), (4, 0), (5, 0), (6, 0), (7, 2), (8, 0), (9, 0)] (by kernel_rfl) (fun _ h => h) (by rfl) (by kernel_rfl) (fun hB => ?_)
        repeat first
          | refine D_pure TOk (by kernel_rfl) hB (by rfl) (by rfl) (by first | trivial | (simp only [okI, and_true, true_and, and_self] <;> omega)) (fun hB => ?_)
          | refine D_done hB ?_
          | refine D_shown (fun _ h => h) ?_
          | refine D_shown (fun _ h => h.ent (Ent.drop1 _ _)) ?_
          | refine D_load_box 0 TOk (by kernel_rfl) hB (by rfl) (by rfl) (by rfl) (by rfl) (by rfl) (fun _ h => h) (by rfl) (by rfl) (fun hB => ?_)
          | refine D_load_box 1 TOk (by kernel_rfl) hB (by rfl) (by rfl) (by rfl) (by rfl) (by rfl) (fun _ h => h) (by rfl) (by rfl) (fun hB => ?_)
          | refine D_load_boxN 0 TOk (by kernel_rfl) hB (by rfl) (by rfl) (by rfl) (by rfl) (by rfl) (by rfl) (fun _ h => h) (by rfl) (fun hB => ?_)
          | refine D_load_boxN 1 TOk (by kernel_rfl) hB (by rfl) (by rfl) (by rfl) (by rfl) (by rfl) (by rfl) (fun _ h => h) (by rfl) (fun hB => ?_)
        refine D_one hB (by rfl) (fun hB => ?_)
        refine W_callV (by rfl) Try.call43 (by rfl) (fun w1 hw => Count_c w1 b x (textAt 1 hw.hp rfl)) ?_
        repeat first
          | refine W_seq ?_
          | refine W_skip ?_
          | refine W_block ?_
          | refine W_blk ?_
          | refine W_exit (by rfl) ?_
          | refine W_region (by rfl) ?_
          | refine W_opsnil ?_
          | refine W_pure TOk (by rfl) (by first | trivial | (simp only [okI, and_true, true_and, and_self] <;> omega)) ?_
          | refine W_on (by rfl) (by rfl) (by rfl) ?_
          | refine W_off (by rfl) (by rfl) (by rfl) (by rfl) (by rfl) ?_
          | refine W_offU (by rfl) (by rfl) (by rfl) (by rfl) ?_
          | refine W_cond_t (by rfl) ?_
          | refine W_cond_f (by rfl) ?_
        repeat first
          | refine D_pure1 TOk (by kernel_rfl) hB (by rfl) (by rfl) (by rfl) (by rfl) (by first | trivial | (simp only [okI, and_true, true_and, and_self] <;> omega)) (fun hB => ?_)
          | refine D_off (by kernel_rfl) hB (by rfl) (by rfl) (by rfl) (fun hB => ?_)
          | refine D_done hB ?_
          | refine D_shown (fun _ h => h) ?_
          | refine D_shown (fun _ h => h.ent (Ent.drop1 _ _)) ?_
          | refine D_load_box 0 TOk (by kernel_rfl) hB (by rfl) (by rfl) (by rfl) (by rfl) (by rfl) (fun _ h => h) (by rfl) (by rfl) (fun hB => ?_)
          | refine D_load_box 1 TOk (by kernel_rfl) hB (by rfl) (by rfl) (by rfl) (by rfl) (by rfl) (fun _ h => h) (by rfl) (by rfl) (fun hB => ?_)
          | refine D_load_boxN 0 TOk (by kernel_rfl) hB (by rfl) (by rfl) (by rfl) (by rfl) (by rfl) (by rfl) (fun _ h => h) (by rfl) (fun hB => ?_)
          | refine D_load_boxN 1 TOk (by kernel_rfl) hB (by rfl) (by rfl) (by rfl) (by rfl) (by rfl) (by rfl) (fun _ h => h) (by rfl) (fun hB => ?_)
        refine W_dec 99 (by rfl) (fun _ => ?_) (fun h => absurd (of_decide_eq_false h) (by omega))
        repeat first
          | refine D_pure1 TOk (by kernel_rfl) hB (by rfl) (by rfl) (by rfl) (by rfl) (by first | trivial | (simp only [okI, and_true, true_and, and_self] <;> omega)) (fun hB => ?_)
          | refine D_off (by kernel_rfl) hB (by rfl) (by rfl) (by rfl) (fun hB => ?_)
          | refine D_done hB ?_
          | refine D_shown (fun _ h => h) ?_
          | refine D_shown (fun _ h => h.ent (Ent.drop1 _ _)) ?_
          | refine D_load_box 0 TOk (by kernel_rfl) hB (by rfl) (by rfl) (by rfl) (by rfl) (by rfl) (fun _ h => h) (by rfl) (by rfl) (fun hB => ?_)
          | refine D_load_box 1 TOk (by kernel_rfl) hB (by rfl) (by rfl) (by rfl) (by rfl) (by rfl) (fun _ h => h) (by rfl) (by rfl) (fun hB => ?_)
          | refine D_load_boxN 0 TOk (by kernel_rfl) hB (by rfl) (by rfl) (by rfl) (by rfl) (by rfl) (by rfl) (fun _ h => h) (by rfl) (fun hB => ?_)
          | refine D_load_boxN 1 TOk (by kernel_rfl) hB (by rfl) (by rfl) (by rfl) (by rfl) (by rfl) (by rfl) (fun _ h => h) (by rfl) (fun hB => ?_)
        refine D_last hB (by rfl) (fun hB => ?_)
        repeat first
          | refine W_seq ?_
          | refine W_skip ?_
          | refine W_block ?_
          | refine W_blk ?_
          | refine W_exit (by rfl) ?_
          | refine W_region (by rfl) ?_
          | refine W_opsnil ?_
          | refine W_pure TOk (by rfl) (by first | trivial | (simp only [okI, and_true, true_and, and_self] <;> omega)) ?_
          | refine W_on (by rfl) (by rfl) (by rfl) ?_
          | refine W_off (by rfl) (by rfl) (by rfl) (by rfl) (by rfl) ?_
          | refine W_offU (by rfl) (by rfl) (by rfl) (by rfl) ?_
          | refine W_cond_t (by rfl) ?_
          | refine W_cond_f (by rfl) ?_
        refine W_callV (by rfl) Try.call44 (by rfl) (fun w1 hw => awake_c w1) ?_
        repeat first
          | refine W_seq ?_
          | refine W_skip ?_
          | refine W_block ?_
          | refine W_blk ?_
          | refine W_exit (by rfl) ?_
          | refine W_region (by rfl) ?_
          | refine W_opsnil ?_
          | refine W_pure TOk (by rfl) (by first | trivial | (simp only [okI, and_true, true_and, and_self] <;> omega)) ?_
          | refine W_on (by rfl) (by rfl) (by rfl) ?_
          | refine W_off (by rfl) (by rfl) (by rfl) (by rfl) (by rfl) ?_
          | refine W_offU (by rfl) (by rfl) (by rfl) (by rfl) ?_
          | refine W_cond_t (by rfl) ?_
          | refine W_cond_f (by rfl) ?_
        repeat first
          | refine D_pure1 TOk (by kernel_rfl) hB (by rfl) (by rfl) (by rfl) (by rfl) (by first | trivial | (simp only [okI, and_true, true_and, and_self] <;> omega)) (fun hB => ?_)
          | refine D_off (by kernel_rfl) hB (by rfl) (by rfl) (by rfl) (fun hB => ?_)
          | refine D_done hB ?_
          | refine D_shown (fun _ h => h) ?_
          | refine D_shown (fun _ h => h.ent (Ent.drop1 _ _)) ?_
          | refine D_load_box 0 TOk (by kernel_rfl) hB (by rfl) (by rfl) (by rfl) (by rfl) (by rfl) (fun _ h => h) (by rfl) (by rfl) (fun hB => ?_)
          | refine D_load_box 1 TOk (by kernel_rfl) hB (by rfl) (by rfl) (by rfl) (by rfl) (by rfl) (fun _ h => h) (by rfl) (by rfl) (fun hB => ?_)
          | refine D_load_boxN 0 TOk (by kernel_rfl) hB (by rfl) (by rfl) (by rfl) (by rfl) (by rfl) (by rfl) (fun _ h => h) (by rfl) (fun hB => ?_)
          | refine D_load_boxN 1 TOk (by kernel_rfl) hB (by rfl) (by rfl) (by rfl) (by rfl) (by rfl) (by rfl) (fun _ h => h) (by rfl) (fun hB => ?_)
        repeat first
          | refine W_seq ?_
          | refine W_skip ?_
          | refine W_block ?_
          | refine W_blk ?_
          | refine W_exit (by rfl) ?_
          | refine W_region (by rfl) ?_
          | refine W_opsnil ?_
          | refine W_pure TOk (by rfl) (by first | trivial | (simp only [okI, and_true, true_and, and_self] <;> omega)) ?_
          | refine W_on (by rfl) (by rfl) (by rfl) ?_
          | refine W_off (by rfl) (by rfl) (by rfl) (by rfl) (by rfl) ?_
          | refine W_offU (by rfl) (by rfl) (by rfl) (by rfl) ?_
          | refine W_cond_t (by rfl) ?_
          | refine W_cond_f (by rfl) ?_
        exact W_retF (vs := [_]) ⟨rfl, trivial⟩ (Ent.nil _) ⟨rfl, rfl⟩
    · repeat first
        | refine W_seq ?_
        | refine W_skip ?_
        | refine W_block ?_
        | refine W_blk ?_
        | refine W_exit (by rfl) ?_
        | refine W_region (by rfl) ?_
        | refine W_opsnil ?_
        | refine W_pure TOk (by rfl) (by first | trivial | (simp only [okI, and_true, true_and, and_self] <;> omega)) ?_
        | refine W_on (by rfl) (by rfl) (by rfl) ?_
        | refine W_off (by rfl) (by rfl) (by rfl) (by rfl) (by rfl) ?_
        | refine W_offU (by rfl) (by rfl) (by rfl) (by rfl) ?_
        | refine W_cond_t (by rfl) ?_
        | refine W_cond_f (by rfl) ?_
      refine W_call _ (by rfl) Try.call39 (by rfl) (fun w1 hw => RefNew_c w1 A0 c0 xss (hl.below hw.below) (by omega)) ?_
      intro v1 M1 hj1
      rcases hj1 with ⟨hp2, b, rfl, rfl⟩ | ⟨hp2, rfl, rfl⟩ <;> dsimp only [List.cons_append, List.nil_append]
      · exact absurd hp2 hp
      · repeat first
          | refine W_seq ?_
          | refine W_skip ?_
          | refine W_block ?_
          | refine W_blk ?_
          | refine W_exit (by rfl) ?_
          | refine W_region (by rfl) ?_
          | refine W_opsnil ?_
          | refine W_pure TOk (by rfl) (by first | trivial | (simp only [okI, and_true, true_and, and_self] <;> omega)) ?_
          | refine W_on (by rfl) (by rfl) (by rfl) ?_
          | refine W_off (by rfl) (by rfl) (by rfl) (by rfl) (by rfl) ?_
          | refine W_offU (by rfl) (by rfl) (by rfl) (by rfl) ?_
          | refine W_cond_t (by rfl) ?_
          | refine W_cond_f (by rfl) ?_
        exact W_retF (vs := [_]) ⟨rfl, trivial⟩ (Ent.refl _) ⟨rfl, rfl⟩
end Go.Proofs.Ytdfibmbedjpcgaa
