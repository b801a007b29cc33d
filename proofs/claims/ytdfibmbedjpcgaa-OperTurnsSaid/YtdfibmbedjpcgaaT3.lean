/- Contracts: Turn, the program's. -/
import Derived.Test.YtdfibmbedjpcgaaT2
import Derived.Test.YtdfibmbedjpcgaaO5
set_option linter.unusedVariables false
set_option linter.unusedSimpArgs false
namespace Go.Proofs.Ytdfibmbedjpcgaa
open Go Go.RowKit Eng Ls
attribute [local irreducible] Eng.W

set_option maxRecDepth 4000 in
set_option maxHeartbeats 2000000 in
theorem gatherX_c (w : World) (gf : Nat) (cap : Value) (Q : List Int → Prop) (g : List Int → Nat → Nat → List Int) (hgf : ∀ args w, (callFunc gf args).run Try.prog w = .ok (.enter gf args) w)
    (hg : ∀ w1, Below w.heap.size w w1 → ∀ (B : Option Addr) (c : Nat) (x : List Int) (f t : Nat), Cells w1 B (i32s x) → x.length ≤ c → x.length ≤ 1073741824 → f ≤ t → t ≤ x.length → Q x → Fresh Try.prog gf [.slice B x.length c, .int .i64 (f : Nat), .int .i64 (t : Nat), cap] w1 (RowR (g x f t)))
    (hgl : ∀ x f t, f ≤ t → t ≤ x.length → (g x f t).length ≤ x.length)
    (A : Option Addr) (c0 : Nat) (L : List (List Int)) (hl : RowsAt w A L) (hb : L.length + tot L ≤ 1073741824) (hQ : ∀ i, i < L.length → Q (rowN L i)) (kd : Int) (a b : Nat × Nat) (hok : RegOk L kd a b) :
    Fresh Try.prog 113 [areaV kd a b, .slice A L.length c0, .func (.func gf) #[] #[cap]] w (RowsR (gathS g L kd a b (b.1 + 1 - a.1))) := by
  have hle := hok.le
  have hlt := hok.lt
  refine enterF Try.func113 rfl Try.ntmps113 rfl rfl ?_
  repeat first | refine W_seq ?_ | refine W_region (by rfl) ?_
  refine W_box (cs := [_, _, _, _, _]) (by rfl) (by rfl) (by rfl) (fun b3 => ?_)
  repeat first | refine W_seq ?_ | refine W_block ?_ | refine W_region (by rfl) ?_ | refine W_opsnil ?_ | refine W_pure TOk (by rfl) (by first | trivial | (simp only [okI, and_true, true_and, and_self] <;> omega) | omega) ?_ | refine W_load_box 0 TOk (by rfl) (by rfl) (by rfl) (by rfl) (by rfl) ?_
  refine W_loop (ι := Nat × Option Addr × Nat × List Value) (fun q => [(1, .slice A L.length c0), (2, .func (.func gf) #[] #[cap]), (3, .pointer (some ⟨b3, 0, none⟩)), (7, .slice q.2.1 q.1 q.2.2.1), (8, .int .i64 ((a.1 + q.1 : Nat) : Int))]) (fun q => [own 48 1 q.2.1 q.1 q.2.2.1 q.2.2.2, rowsA q.2.2.2 (gathS g L kd a b q.1), box b3 159 [.int .i64 kd, .int .i64 (a.1 : Nat), .int .i64 (a.2 : Nat), .int .i64 (b.1 : Nat), .int .i64 (b.2 : Nat)]])
    (fun q => q.1 ≤ b.1 + 1 - a.1 ∧ q.2.2.2.length = q.1) (fun q => b.1 + 1 - a.1 - q.1) (0, none, 0, []) ⟨by omega, rfl⟩ ⟨rfl, rfl, rfl, rfl, rfl, trivial⟩ ((Ent.rowsA_nil _).trans (Ent.own_zero _ _ _ _)) ?_
  rintro ⟨n, A1, c1, vs⟩ ⟨hn, hvl⟩
  dsimp only at hn hvl ⊢
  repeat first | refine W_seq ?_ | refine W_region (by rfl) ?_ | refine W_opsnil ?_ | refine W_pure TOk (by rfl) (by first | trivial | (simp only [okI, and_true, true_and, and_self] <;> omega) | omega) ?_ | refine W_load_box 2 TOk (by rfl) (by rfl) (by rfl) (by rfl) (by rfl) ?_
  refine W_cond_d (by rfl) (fun hle2 => ?_) (fun hgt => ?_)
  · obtain ⟨B, cB, hcB, hB_, hvs⟩ := hl.row (i := ((a.1 + n : Nat) : Int)) (by omega) (by omega)
    rw [rowN_rw] at hvs hB_ hcB
    have hrl := rowN_len (xss := L) (i := a.1 + n) (by omega)
    have hcl := col_le kd a b (rowN L (a.1 + n)).length (a.1 + n)
    have hgn := hgl (rowN L (a.1 + n)) _ _ hcl.1 hcl.2
    repeat first | refine W_seq ?_ | refine W_skip ?_ | refine W_block ?_ | refine W_region (by rfl) ?_ | refine W_pure TOk (by rfl) (by first | trivial | (simp only [okI, and_true, true_and, and_self] <;> omega) | omega) ?_ | refine W_load_boxN 2 TOk (by rfl) (by rfl) (by rfl) (by rfl) (by rfl) ?_
    refine W_callV (by rfl) Try.call177 (by rfl) (fun w1 hw => columns_c w1 A c0 L (hl.below hw.below) (by omega) kd a b (a.1 + n) hok (by omega) (by omega)) ?_
    repeat first | refine W_region (by rfl) ?_ | refine W_opsnil ?_ | refine W_pure TOk (by rfl) (by first | trivial | (simp only [okI, and_true, true_and, and_self] <;> omega) | omega) ?_
    refine W_index TOk (by rfl) (by rfl) (by rfl) (by first | exact es48 | exact es22 | exact es136 | exact es150 | exact es223 | exact es29 | exact es132 | exact es207) (by omega) (by omega) (fun w1 hw => (hl.below hw.below).isSome (by omega)) ?_
    refine W_load TOk (by rfl) (by rfl) (by rfl) (fun w1 hw => cells_elem1 hvs hw.below) ?_
    repeat first | refine W_pure TOk (by rfl) (by first | trivial | (simp only [okI, and_true, true_and, and_self] <;> omega) | omega) ?_
    refine W_callF (us := [.slice B (rowN L (a.1 + n)).length cB, .int .i64 (colF kd a b (rowN L (a.1 + n)).length (a.1 + n) : Nat), .int .i64 (colT kd a b (rowN L (a.1 + n)).length (a.1 + n) : Nat), cap]) (RowR (g (rowN L (a.1 + n)) (colF kd a b (rowN L (a.1 + n)).length (a.1 + n)) (colT kd a b (rowN L (a.1 + n)).length (a.1 + n)))) (by rfl) (by rfl) hgf (by rfl) (by rfl) (fun w1 hw => hg w1 hw.below B cB (rowN L (a.1 + n)) _ _ (hB_.below hw.below) hcB (by omega) hcl.1 hcl.2 (hQ _ (by omega))) ?_
    rintro _ _ ⟨A2, c2, rfl, rfl⟩
    dsimp only [List.cons_append, List.nil_append]
    refine W_lit TOk (cs := [_]) (by rfl) (by first | exact sl48 | exact sl22 | exact sl136 | exact sl150 | exact sl223 | exact sl29 | exact sl132 | exact sl207) (by rfl) (by rfl) (by rfl) (by rfl) (fun g1 => ?_)
    refine W_append_own 2 TOk (by rfl) (by rfl) (by rfl) (by first | exact sl48 | exact sl22 | exact sl136 | exact sl150 | exact sl223 | exact sl29 | exact sl132 | exact sl207) (by rfl) (fun w1 hw => hw.hp.cells 0 rfl) (by simp [i32s_length, i64s_length]) (by first | exact i32s_one _ | exact i64s_one _ | exact one_of _ rfl) (by unfold maxLen; omega) (by omega) (fun A3 c3 => ?_); dsimp only [setL]
    repeat first | refine W_blk ?_ | refine W_region (by rfl) ?_ | refine W_opsnil ?_ | refine W_pure TOk (by rfl) (by first | trivial | (simp only [okI, and_true, true_and, and_self] <;> omega) | omega) ?_
    refine W_inv (n + 1, A3, c3, vs ++ [.slice A2 (g (rowN L (a.1 + n)) (colF kd a b (rowN L (a.1 + n)).length (a.1 + n)) (colT kd a b (rowN L (a.1 + n)).length (a.1 + n))).length c2]) ⟨by dsimp only; omega, by dsimp only; simp [hvl]⟩ (by dsimp only; omega) ⟨rfl, rfl, rfl, rfl, rfl, trivial⟩ ?_
    dsimp only
    rw [gathS_succ]
    refine (Ent.drop1 _ _).trans ?_
    exact Ent.push_row (vs := vs) (xss := gathS g L kd a b n) (by rw [hvl, gathS_length]) A2 c2 _ _ _
  · have e : n = b.1 + 1 - a.1 := by omega
    subst e
    repeat first | refine W_seq ?_ | refine W_exit (by rfl) ?_ | refine W_region (by rfl) ?_ | refine W_opsnil ?_ | refine W_pure TOk (by rfl) (by first | trivial | (simp only [okI, and_true, true_and, and_self] <;> omega) | omega) ?_
    refine W_retF (vs := [_]) ⟨rfl, trivial⟩ (M := [own 48 1 A1 (b.1 + 1 - a.1) c1 vs, rowsA vs (gathS g L kd a b (b.1 + 1 - a.1))]) (Ent.cons _ (Ent.cons _ (Ent.nil _))) ⟨A1, c1, vs, ?_, by rw [hvl, gathS_length], ?_⟩
    · rw [gathS_length]; rfl
    · rw [gathS_length]

theorem boxAt1 {B : Nat} {w : World} {M : List Ast} (i : Nat) (h : Hp B w M) {b : Nat} {t : TypeId} {cs : List Value} (hi : M[i]? = some (box b t cs)) : BoxAt w b cs := by
  obtain ⟨S1, g1, _⟩ := h.nth i hi
  exact BoxAt.of g1
def badHow (how : Int) : Prop := how ≠ 126 ∧ how ≠ 117 ∧ how ≠ 85
instance (how : Int) : Decidable (badHow how) := by unfold badHow; exact inferInstance
def turnE (L : List (List Int)) (how fl fc tl tc kd : Int) : Int := if badHow how then 1 else regE L fl fc tl tc kd
def turnS_ (L : List (List Int)) (how : Int) (kd : Int) (a b : Nat × Nat) : List (List Int) := L.take a.1 ++ gathS (turnRow how) L kd a b (b.1 + 1 - a.1) ++ L.drop (b.1 + 1)
/-- Lines, or why not. -/
def TurnR (e : Int) (R : List (List Int)) (v : Value) (M : List Ast) : Prop :=
  (e ≠ 0 ∧ v = .tuple #[.slice none 0 0, .int .i64 e] ∧ M = []) ∨
  (e = 0 ∧ ∃ A c vs, v = .tuple #[.slice A R.length c, .int .i64 0] ∧ vs.length = R.length ∧ M = [own 48 1 A R.length c vs, rowsA vs R])
set_option maxRecDepth 4000 in
set_option maxHeartbeats 4000000 in
theorem Turn_c (w : World) (A : Option Addr) (c0 : Nat) (L : List (List Int)) (hl : RowsAt w A L) (hc : L.length ≤ c0) (hb : L.length + tot L ≤ 268435456) (hQ : ∀ i, i < L.length → in32 (rowN L i)) (fl fc tl tc kd how : Int) :
    Fresh Try.prog 81 [.slice A L.length c0, rgV fl fc tl tc kd, .int .i32 how] w (TurnR (turnE L how fl fc tl tc kd) (turnS_ L how kd (regA fl fc tl tc) (regB fl fc tl tc))) := by
  refine enterF Try.func81 rfl Try.ntmps81 rfl rfl ?_
  repeat first | refine W_seq ?_ | refine W_region (by rfl) ?_
  refine W_box (cs := [_, _, _, _, _]) (by rfl) (by rfl) (by rfl) (fun b4 => ?_)
  refine W_box (cs := [_]) (by rfl) (by rfl) (by rfl) (fun b5 => ?_)
  repeat first | refine W_seq ?_ | refine W_region (by rfl) ?_ | refine W_opsnil ?_ | refine W_pure TOk (by rfl) (by first | trivial | (simp only [okI, and_true, true_and, and_self] <;> omega) | omega) ?_ | refine W_load_box 0 TOk (by rfl) (by rfl) (by rfl) (by rfl) (by rfl) ?_
  have hbad : ∀ (F : Fr) (k : List It) (M : List Ast), fget F 6 = some (.slice none 0 0) → fget F 7 = some (.int .i64 1) → badHow how →
      W (cx Try.prog Try.f81 44 w.heap.size w (FR w (TurnR (turnE L how fl fc tl tc kd) (turnS_ L how kd (regA fl fc tl tc) (regB fl fc tl tc))))) (.code .ret :: k) F M := fun F k M h6 h7 hbh => by
    have he : turnE L how fl fc tl tc kd = 1 := if_pos hbh
    rw [he]
    exact W_retF (vs := [_, _]) ⟨h6, h7, trivial⟩ (M := []) (Ent.nil _) (.inl ⟨by decide, rfl, rfl⟩)
  refine W_dec 13 (by rfl) (fun h1 => ?_) (fun h1 => ?_)
  · have h1 : how ≠ 126 := by simpa using h1
    repeat first | refine W_pure TOk (by rfl) (by first | trivial | (simp only [okI, and_true, true_and, and_self] <;> omega) | omega) ?_ | refine W_on (by rfl) (by rfl) (by rfl) ?_ | refine W_load_box 0 TOk (by rfl) (by rfl) (by rfl) (by rfl) (by rfl) ?_
    refine W_dec 17 (by rfl) (fun h2 => ?_) (fun h2 => ?_)
    · have h2 : how ≠ 117 := by simpa using h2
      repeat first | refine W_opsnil ?_ | refine W_pure TOk (by rfl) (by first | trivial | (simp only [okI, and_true, true_and, and_self] <;> omega) | omega) ?_ | refine W_on (by rfl) (by rfl) (by rfl) ?_ | refine W_load_box 0 TOk (by rfl) (by rfl) (by rfl) (by rfl) (by rfl) ?_
      refine W_cond_nd (by rfl) (fun h3 => ?_) (fun h3 => ?_)
      · repeat first | refine W_seq ?_ | refine W_region (by rfl) ?_ | refine W_opsnil ?_ | refine W_pure TOk (by rfl) (by first | trivial | (simp only [okI, and_true, true_and, and_self] <;> omega) | omega) ?_
        exact hbad _ _ _ rfl rfl ⟨h1, h2, h3⟩
      · have hhow : how = 126 ∨ how = 117 ∨ how = 85 := .inr (.inr h3)
        have hnb : ¬ badHow how := by unfold badHow; omega
        rw [show turnE L how fl fc tl tc kd = regE L fl fc tl tc kd from if_neg hnb]
        repeat first | refine W_seq ?_ | refine W_skip ?_ | refine W_region (by rfl) ?_ | refine W_pure TOk (by rfl) (by first | trivial | (simp only [okI, and_true, true_and, and_self] <;> omega) | omega) ?_ | refine W_load_boxN 1 TOk (by rfl) (by rfl) (by rfl) (by rfl) (by rfl) ?_
        refine W_call _ (by rfl) Try.call112 (by rfl) (fun w1 hw => at_c w1 A c0 L (hl.below hw.below) (by omega) fl fc tl tc kd) ?_
        rintro _ _ ⟨_, rfl, rfl, ⟨c1, c2, c3, c4, c5, rfl⟩, hav⟩
        dsimp only [List.cons_append, List.nil_append]
        repeat first | refine W_pure TOk (by rfl) (by first | trivial | (simp only [okI, and_true, true_and, and_self] <;> omega) | omega) ?_
        refine W_alloc (cs := [_, _, _, _, _]) TOk (by rfl) (by rfl) (fun b8 => ?_)
        repeat first | refine W_seq ?_ | refine W_region (by rfl) ?_ | refine W_opsnil ?_ | refine W_pure TOk (by rfl) (by first | trivial | (simp only [okI, and_true, true_and, and_self] <;> omega) | omega) ?_ | (refine W_store_box 0 TOk (by rfl) (by rfl) (by rfl) (by rfl) (by rfl) (by rfl) ?_; dsimp only [setL, putL, vcells])
        refine W_cond_nd (by rfl) (fun hne => ?_) (fun he => ?_)
        · repeat first | refine W_seq ?_ | refine W_region (by rfl) ?_ | refine W_opsnil ?_ | refine W_pure TOk (by rfl) (by first | trivial | (simp only [okI, and_true, true_and, and_self] <;> omega) | omega) ?_
          exact W_retF (vs := [_, _]) ⟨rfl, rfl, trivial⟩ (M := []) (Ent.nil _) (.inl ⟨hne, rfl, rfl⟩)
        · have hav := hav he
          obtain ⟨hok, heq⟩ := regOk he
          unfold areaV at hav
          injection hav with hav
          injection hav with hav
          simp only [List.cons.injEq, Value.int.injEq, true_and, and_true] at hav
          obtain ⟨rfl, rfl, rfl, rfl, rfl⟩ := hav
          have hle := hok.le
          have hlt := hok.lt
          unfold turnS_
          generalize regA fl fc tl tc = a at *
          generalize regB fl fc tl tc = b at *
          have hGl := gathS_length (turnRow how) L c1 a b (b.1 + 1 - a.1)
          repeat first | refine W_seq ?_ | refine W_skip ?_ | refine W_region (by rfl) ?_ | refine W_pure TOk (by rfl) (by first | trivial | (simp only [okI, and_true, true_and, and_self] <;> omega) | omega) ?_ | refine W_load_boxN 0 TOk (by rfl) (by rfl) (by rfl) (by rfl) (by rfl) ?_
          refine W_call _ (by rfl) Try.call113 (by rfl) (fun w1 hw => gatherX_c w1 150 (.pointer (some ⟨b5, 0, none⟩)) in32 (turnRow how) Try.call150 (fun w2 hb2 B c x f t h1 h2 h3 h4 h5 h6 => Turn1_c w2 b5 how ((boxAt1 1 hw.hp rfl).below hb2 0 _ rfl) hhow B c x f t h1 h6 h2 h3 h4 h5) (fun x f t h1 h2 => by rw [turnRow, turnP_len]; omega) A c0 L (hl.below hw.below) (by omega) hQ _ _ _ hok) ?_
          rintro _ _ ⟨A2, c2, vs, rfl, hvs, rfl⟩
          dsimp only [List.cons_append, List.nil_append]
          generalize gathS (turnRow how) L c1 a b (b.1 + 1 - a.1) = G at *
          refine W_rowsOne 1 (by rfl) hvs (fun h1r => ?_)
          repeat first | refine W_seq ?_ | refine W_region (by rfl) ?_ | refine W_opsnil ?_ | refine W_pure TOk (by rfl) (by first | trivial | (simp only [okI, and_true, true_and, and_self] <;> omega) | omega) ?_ | refine W_load_box 2 TOk (by rfl) (by rfl) (by rfl) (by rfl) (by rfl) ?_
          refine W_call _ (by rfl) Try.call121 (by rfl) (fun w1 hw => put_c w1 A c0 L (hl.below hw.below) hc (by omega) a.1 (b.1 + 1) (by omega) (by omega) A2 G.length c2 vs (hw.hp.cells 0 rfl) hvs h1r (by omega)) ?_
          rintro _ _ ⟨A5, c5, vs1, vs2, rfl, hv1, hv2, rfl⟩
          dsimp only [List.cons_append, List.nil_append]
          have htl : (L.take a.1).length = a.1 := by rw [List.length_take]; omega
          have hdl : (L.drop (b.1 + 1)).length = L.length - (b.1 + 1) := List.length_drop ..
          refine W_ent ((Ent.sel [0, 0, 2, 0] _ (by rfl))) ?_
          refine W_ent (Ent.cons _ (Ent.rowsA_app (by rw [hv1, htl]) _)) ?_
          refine W_ent (Ent.cons _ (Ent.rowsA_app (by rw [List.length_append, List.length_append, hv1, htl, hvs]) _)) ?_
          have hout : (L.take a.1 ++ G ++ L.drop (b.1 + 1)).length = a.1 + G.length + (L.length - (b.1 + 1)) := by rw [List.length_append, List.length_append, htl, hdl]
          generalize L.take a.1 ++ G ++ L.drop (b.1 + 1) = O at *
          have hvo : (vs1 ++ vs ++ vs2).length = O.length := by rw [hout, List.length_append, List.length_append, hv1, hv2, hvs]
          rw [← hout]
          generalize vs1 ++ vs ++ vs2 = vo at *
          repeat first | refine W_opsnil ?_ | refine W_pure TOk (by rfl) (by first | trivial | (simp only [okI, and_true, true_and, and_self] <;> omega) | omega) ?_
          exact W_retF (vs := [_, _]) ⟨rfl, rfl, trivial⟩ (M := [own 48 1 A5 O.length c5 vo, rowsA vo O]) ((Ent.sel [0, 0] _ (by rfl))) (.inr ⟨he, A5, c5, vo, rfl, hvo, rfl⟩)
    · have hhow : how = 126 ∨ how = 117 ∨ how = 85 := .inr (.inl (by simpa using h2))
      have hnb : ¬ badHow how := by unfold badHow; omega
      rw [show turnE L how fl fc tl tc kd = regE L fl fc tl tc kd from if_neg hnb]
      repeat first | refine W_seq ?_ | refine W_skip ?_ | refine W_region (by rfl) ?_ | refine W_opsnil ?_ | refine W_pure TOk (by rfl) (by first | trivial | (simp only [okI, and_true, true_and, and_self] <;> omega) | omega) ?_ | refine W_off (by rfl) (by rfl) (by rfl) (by rfl) (by rfl) ?_ | refine W_cond_f (by rfl) ?_ | refine W_load_boxN 1 TOk (by rfl) (by rfl) (by rfl) (by rfl) (by rfl) ?_
      refine W_call _ (by rfl) Try.call112 (by rfl) (fun w1 hw => at_c w1 A c0 L (hl.below hw.below) (by omega) fl fc tl tc kd) ?_
      rintro _ _ ⟨_, rfl, rfl, ⟨c1, c2, c3, c4, c5, rfl⟩, hav⟩
      dsimp only [List.cons_append, List.nil_append]
      repeat first | refine W_pure TOk (by rfl) (by first | trivial | (simp only [okI, and_true, true_and, and_self] <;> omega) | omega) ?_
      refine W_alloc (cs := [_, _, _, _, _]) TOk (by rfl) (by rfl) (fun b8 => ?_)
      repeat first | refine W_seq ?_ | refine W_region (by rfl) ?_ | refine W_opsnil ?_ | refine W_pure TOk (by rfl) (by first | trivial | (simp only [okI, and_true, true_and, and_self] <;> omega) | omega) ?_ | (refine W_store_box 0 TOk (by rfl) (by rfl) (by rfl) (by rfl) (by rfl) (by rfl) ?_; dsimp only [setL, putL, vcells])
      refine W_cond_nd (by rfl) (fun hne => ?_) (fun he => ?_)
      · repeat first | refine W_seq ?_ | refine W_region (by rfl) ?_ | refine W_opsnil ?_ | refine W_pure TOk (by rfl) (by first | trivial | (simp only [okI, and_true, true_and, and_self] <;> omega) | omega) ?_
        exact W_retF (vs := [_, _]) ⟨rfl, rfl, trivial⟩ (M := []) (Ent.nil _) (.inl ⟨hne, rfl, rfl⟩)
      · have hav := hav he
        obtain ⟨hok, heq⟩ := regOk he
        unfold areaV at hav
        injection hav with hav
        injection hav with hav
        simp only [List.cons.injEq, Value.int.injEq, true_and, and_true] at hav
        obtain ⟨rfl, rfl, rfl, rfl, rfl⟩ := hav
        have hle := hok.le
        have hlt := hok.lt
        unfold turnS_
        generalize regA fl fc tl tc = a at *
        generalize regB fl fc tl tc = b at *
        have hGl := gathS_length (turnRow how) L c1 a b (b.1 + 1 - a.1)
        repeat first | refine W_seq ?_ | refine W_skip ?_ | refine W_region (by rfl) ?_ | refine W_pure TOk (by rfl) (by first | trivial | (simp only [okI, and_true, true_and, and_self] <;> omega) | omega) ?_ | refine W_load_boxN 0 TOk (by rfl) (by rfl) (by rfl) (by rfl) (by rfl) ?_
        refine W_call _ (by rfl) Try.call113 (by rfl) (fun w1 hw => gatherX_c w1 150 (.pointer (some ⟨b5, 0, none⟩)) in32 (turnRow how) Try.call150 (fun w2 hb2 B c x f t h1 h2 h3 h4 h5 h6 => Turn1_c w2 b5 how ((boxAt1 1 hw.hp rfl).below hb2 0 _ rfl) hhow B c x f t h1 h6 h2 h3 h4 h5) (fun x f t h1 h2 => by rw [turnRow, turnP_len]; omega) A c0 L (hl.below hw.below) (by omega) hQ _ _ _ hok) ?_
        rintro _ _ ⟨A2, c2, vs, rfl, hvs, rfl⟩
        dsimp only [List.cons_append, List.nil_append]
        generalize gathS (turnRow how) L c1 a b (b.1 + 1 - a.1) = G at *
        refine W_rowsOne 1 (by rfl) hvs (fun h1r => ?_)
        repeat first | refine W_seq ?_ | refine W_region (by rfl) ?_ | refine W_opsnil ?_ | refine W_pure TOk (by rfl) (by first | trivial | (simp only [okI, and_true, true_and, and_self] <;> omega) | omega) ?_ | refine W_load_box 2 TOk (by rfl) (by rfl) (by rfl) (by rfl) (by rfl) ?_
        refine W_call _ (by rfl) Try.call121 (by rfl) (fun w1 hw => put_c w1 A c0 L (hl.below hw.below) hc (by omega) a.1 (b.1 + 1) (by omega) (by omega) A2 G.length c2 vs (hw.hp.cells 0 rfl) hvs h1r (by omega)) ?_
        rintro _ _ ⟨A5, c5, vs1, vs2, rfl, hv1, hv2, rfl⟩
        dsimp only [List.cons_append, List.nil_append]
        have htl : (L.take a.1).length = a.1 := by rw [List.length_take]; omega
        have hdl : (L.drop (b.1 + 1)).length = L.length - (b.1 + 1) := List.length_drop ..
        refine W_ent ((Ent.sel [0, 0, 2, 0] _ (by rfl))) ?_
        refine W_ent (Ent.cons _ (Ent.rowsA_app (by rw [hv1, htl]) _)) ?_
        refine W_ent (Ent.cons _ (Ent.rowsA_app (by rw [List.length_append, List.length_append, hv1, htl, hvs]) _)) ?_
        have hout : (L.take a.1 ++ G ++ L.drop (b.1 + 1)).length = a.1 + G.length + (L.length - (b.1 + 1)) := by rw [List.length_append, List.length_append, htl, hdl]
        generalize L.take a.1 ++ G ++ L.drop (b.1 + 1) = O at *
        have hvo : (vs1 ++ vs ++ vs2).length = O.length := by rw [hout, List.length_append, List.length_append, hv1, hv2, hvs]
        rw [← hout]
        generalize vs1 ++ vs ++ vs2 = vo at *
        repeat first | refine W_opsnil ?_ | refine W_pure TOk (by rfl) (by first | trivial | (simp only [okI, and_true, true_and, and_self] <;> omega) | omega) ?_
        exact W_retF (vs := [_, _]) ⟨rfl, rfl, trivial⟩ (M := [own 48 1 A5 O.length c5 vo, rowsA vo O]) ((Ent.sel [0, 0] _ (by rfl))) (.inr ⟨he, A5, c5, vo, rfl, hvo, rfl⟩)
  · have hhow : how = 126 ∨ how = 117 ∨ how = 85 := .inl (by simpa using h1)
    have hnb : ¬ badHow how := by unfold badHow; omega
    rw [show turnE L how fl fc tl tc kd = regE L fl fc tl tc kd from if_neg hnb]
    repeat first | refine W_seq ?_ | refine W_skip ?_ | refine W_region (by rfl) ?_ | refine W_opsnil ?_ | refine W_pure TOk (by rfl) (by first | trivial | (simp only [okI, and_true, true_and, and_self] <;> omega) | omega) ?_ | refine W_off (by rfl) (by rfl) (by rfl) (by rfl) (by rfl) ?_ | refine W_cond_f (by rfl) ?_ | refine W_load_boxN 1 TOk (by rfl) (by rfl) (by rfl) (by rfl) (by rfl) ?_
    refine W_call _ (by rfl) Try.call112 (by rfl) (fun w1 hw => at_c w1 A c0 L (hl.below hw.below) (by omega) fl fc tl tc kd) ?_
    rintro _ _ ⟨_, rfl, rfl, ⟨c1, c2, c3, c4, c5, rfl⟩, hav⟩
    dsimp only [List.cons_append, List.nil_append]
    repeat first | refine W_pure TOk (by rfl) (by first | trivial | (simp only [okI, and_true, true_and, and_self] <;> omega) | omega) ?_
    refine W_alloc (cs := [_, _, _, _, _]) TOk (by rfl) (by rfl) (fun b8 => ?_)
    repeat first | refine W_seq ?_ | refine W_region (by rfl) ?_ | refine W_opsnil ?_ | refine W_pure TOk (by rfl) (by first | trivial | (simp only [okI, and_true, true_and, and_self] <;> omega) | omega) ?_ | (refine W_store_box 0 TOk (by rfl) (by rfl) (by rfl) (by rfl) (by rfl) (by rfl) ?_; dsimp only [setL, putL, vcells])
    refine W_cond_nd (by rfl) (fun hne => ?_) (fun he => ?_)
    · repeat first | refine W_seq ?_ | refine W_region (by rfl) ?_ | refine W_opsnil ?_ | refine W_pure TOk (by rfl) (by first | trivial | (simp only [okI, and_true, true_and, and_self] <;> omega) | omega) ?_
      exact W_retF (vs := [_, _]) ⟨rfl, rfl, trivial⟩ (M := []) (Ent.nil _) (.inl ⟨hne, rfl, rfl⟩)
    · have hav := hav he
      obtain ⟨hok, heq⟩ := regOk he
      unfold areaV at hav
      injection hav with hav
      injection hav with hav
      simp only [List.cons.injEq, Value.int.injEq, true_and, and_true] at hav
      obtain ⟨rfl, rfl, rfl, rfl, rfl⟩ := hav
      have hle := hok.le
      have hlt := hok.lt
      unfold turnS_
      generalize regA fl fc tl tc = a at *
      generalize regB fl fc tl tc = b at *
      have hGl := gathS_length (turnRow how) L c1 a b (b.1 + 1 - a.1)
      repeat first | refine W_seq ?_ | refine W_skip ?_ | refine W_region (by rfl) ?_ | refine W_pure TOk (by rfl) (by first | trivial | (simp only [okI, and_true, true_and, and_self] <;> omega) | omega) ?_ | refine W_load_boxN 0 TOk (by rfl) (by rfl) (by rfl) (by rfl) (by rfl) ?_
      refine W_call _ (by rfl) Try.call113 (by rfl) (fun w1 hw => gatherX_c w1 150 (.pointer (some ⟨b5, 0, none⟩)) in32 (turnRow how) Try.call150 (fun w2 hb2 B c x f t h1 h2 h3 h4 h5 h6 => Turn1_c w2 b5 how ((boxAt1 1 hw.hp rfl).below hb2 0 _ rfl) hhow B c x f t h1 h6 h2 h3 h4 h5) (fun x f t h1 h2 => by rw [turnRow, turnP_len]; omega) A c0 L (hl.below hw.below) (by omega) hQ _ _ _ hok) ?_
      rintro _ _ ⟨A2, c2, vs, rfl, hvs, rfl⟩
      dsimp only [List.cons_append, List.nil_append]
      generalize gathS (turnRow how) L c1 a b (b.1 + 1 - a.1) = G at *
      refine W_rowsOne 1 (by rfl) hvs (fun h1r => ?_)
      repeat first | refine W_seq ?_ | refine W_region (by rfl) ?_ | refine W_opsnil ?_ | refine W_pure TOk (by rfl) (by first | trivial | (simp only [okI, and_true, true_and, and_self] <;> omega) | omega) ?_ | refine W_load_box 2 TOk (by rfl) (by rfl) (by rfl) (by rfl) (by rfl) ?_
      refine W_call _ (by rfl) Try.call121 (by rfl) (fun w1 hw => put_c w1 A c0 L (hl.below hw.below) hc (by omega) a.1 (b.1 + 1) (by omega) (by omega) A2 G.length c2 vs (hw.hp.cells 0 rfl) hvs h1r (by omega)) ?_
      rintro _ _ ⟨A5, c5, vs1, vs2, rfl, hv1, hv2, rfl⟩
      dsimp only [List.cons_append, List.nil_append]
      have htl : (L.take a.1).length = a.1 := by rw [List.length_take]; omega
      have hdl : (L.drop (b.1 + 1)).length = L.length - (b.1 + 1) := List.length_drop ..
      refine W_ent ((Ent.sel [0, 0, 2, 0] _ (by rfl))) ?_
      refine W_ent (Ent.cons _ (Ent.rowsA_app (by rw [hv1, htl]) _)) ?_
      refine W_ent (Ent.cons _ (Ent.rowsA_app (by rw [List.length_append, List.length_append, hv1, htl, hvs]) _)) ?_
      have hout : (L.take a.1 ++ G ++ L.drop (b.1 + 1)).length = a.1 + G.length + (L.length - (b.1 + 1)) := by rw [List.length_append, List.length_append, htl, hdl]
      generalize L.take a.1 ++ G ++ L.drop (b.1 + 1) = O at *
      have hvo : (vs1 ++ vs ++ vs2).length = O.length := by rw [hout, List.length_append, List.length_append, hv1, hv2, hvs]
      rw [← hout]
      generalize vs1 ++ vs ++ vs2 = vo at *
      repeat first | refine W_opsnil ?_ | refine W_pure TOk (by rfl) (by first | trivial | (simp only [okI, and_true, true_and, and_self] <;> omega) | omega) ?_
      exact W_retF (vs := [_, _]) ⟨rfl, rfl, trivial⟩ (M := [own 48 1 A5 O.length c5 vo, rowsA vo O]) ((Ent.sel [0, 0] _ (by rfl))) (.inr ⟨he, A5, c5, vo, rfl, hvo, rfl⟩)
end Go.Proofs.Ytdfibmbedjpcgaa
