/- Contracts: Turn, the document's. -/
import Derived.Test.YtdfibmbedjpcgaaT3
import Derived.Test.YtdfibmbedjpcgaaO4
import Derived.Test.YtdfibmbedjpcgaaR3
set_option linter.unusedVariables false
set_option linter.unusedSimpArgs false
namespace Go.Proofs.Ytdfibmbedjpcgaa
open Go Go.RowKit Eng Ls
attribute [local irreducible] Eng.W

def TRw (how kd : Int) (a b : Nat × Nat) (i : Nat) (x : List Int) : List Int := turnP how (fun k => hasS kd a b i k) x
/-- The first lines turned. -/
def RT (how kd : Int) (a b : Nat × Nat) (L : List (List Int)) (i : Nat) : List (List Int) := L.mapIdx fun j x => if j < i then TRw how kd a b j x else x
theorem rt_len (how kd : Int) (a b : Nat × Nat) (L : List (List Int)) (i : Nat) : (RT how kd a b L i).length = L.length := by simp [RT]
theorem rt_zero (how kd : Int) (a b : Nat × Nat) (L : List (List Int)) : RT how kd a b L 0 = L := by
  apply List.ext_getElem (by simp [RT])
  intro j h1 h2
  simp [RT]
theorem rowN_getE {L : List (List Int)} {i : Nat} (h : i < L.length) : rowN L i = L[i] := by
  have := rowN_get h
  rw [List.getElem?_eq_getElem h] at this
  exact (Option.some.inj this).symm
theorem rt_at (how kd : Int) (a b : Nat × Nat) {L : List (List Int)} {i : Nat} (h : i < L.length) : (RT how kd a b L i)[i]? = some (rowN L i) := by
  rw [List.getElem?_eq_getElem (by rw [rt_len]; exact h), rowN_getE h]
  simp [RT]
theorem rt_next (how kd : Int) (a b : Nat × Nat) {L : List (List Int)} {i : Nat} (h : i < L.length) : (RT how kd a b L i).set i (TRw how kd a b i (rowN L i)) = RT how kd a b L (i + 1) := by
  apply List.ext_getElem (by simp [RT])
  intro j h1 h2
  rw [List.getElem_set]
  by_cases hj : i = j
  · subst hj
    rw [if_pos rfl, rowN_getE h]
    simp [RT]
  · rw [if_neg hj]
    simp only [RT, List.getElem_mapIdx]
    by_cases h3 : j < i
    · rw [if_pos h3, if_pos (by omega)]
    · rw [if_neg h3, if_neg (by omega)]
theorem hasS_out {xss : List (List Int)} {kd : Int} {a b : Nat × Nat} (h : RegOk xss kd a b) {i k : Nat} (h1 : i < a.1 ∨ b.1 < i) : hasS kd a b i k = false := by
  have hkd := h.kd
  unfold hasS aheadS
  rcases (show kd = 0 ∨ kd = 1 ∨ kd = 2 by omega) with rfl | rfl | rfl
  · rw [if_pos rfl]
    rcases h1 with h1 | h1
    · simp [h1]
    · simp [h1]
  · rw [if_neg (by decide), if_pos rfl]
    rcases h1 with h1 | h1
    · simp; omega
    · simp; omega
  · rw [if_neg (by decide), if_neg (by decide)]
    rcases h1 with h1 | h1
    · simp; omega
    · simp; omega
theorem tr_in {L : List (List Int)} (how : Int) {kd : Int} {a b : Nat × Nat} (h : RegOk L kd a b) {i : Nat} (h1 : a.1 ≤ i) (h2 : i ≤ b.1) (x : List Int) : turnRow how x (colF kd a b x.length i) (colT kd a b x.length i) = TRw how kd a b i x := by
  refine turnP_congr (fun k hk => ?_)
  have := hasS_col h h1 h2 hk
  rw [Bool.eq_iff_iff, this, Bool.and_eq_true, decide_eq_true_eq, decide_eq_true_eq]
  omega
theorem rt_all {L : List (List Int)} (how : Int) {kd : Int} {a b : Nat × Nat} (h : RegOk L kd a b) : RT how kd a b L L.length = turnS_ L how kd a b := by
  have hle := h.le
  have hlt := h.lt
  have hgl := gathS_length (turnRow how) L kd a b (b.1 + 1 - a.1)
  have htl : (L.take a.1).length = a.1 := by rw [List.length_take]; omega
  unfold turnS_
  apply List.ext_getElem (by rw [rt_len, List.length_append, List.length_append, htl, hgl, List.length_drop]; omega)
  intro j h1 h2
  have hj : j < L.length := by rw [rt_len] at h1; exact h1
  have e : (RT how kd a b L L.length)[j] = TRw how kd a b j L[j] := by
    simp only [RT, List.getElem_mapIdx]
    rw [if_pos hj]
  rw [e]
  by_cases c1 : j < a.1
  · rw [List.getElem_append_left (by rw [List.length_append, htl, hgl]; omega), List.getElem_append_left (by omega), List.getElem_take]
    exact turnP_none (fun k _ => hasS_out h (.inl c1))
  · by_cases c2 : j ≤ b.1
    · rw [List.getElem_append_left (by rw [List.length_append, htl, hgl]; omega), List.getElem_append_right (by omega)]
      simp only [gathS, List.getElem_map, List.getElem_range, htl]
      rw [show a.1 + (j - a.1) = j by omega, rowN_getE hj, tr_in how h (by omega) c2]
    · rw [List.getElem_append_right (by rw [List.length_append, htl, hgl]; omega), List.getElem_drop]
      have e2 : TRw how kd a b j L[j] = L[j] := turnP_none (fun k _ => hasS_out h (.inr (by omega)))
      rw [e2]
      congr 1
      rw [List.length_append, htl, hgl]
      omega
set_option maxRecDepth 4000 in
set_option maxHeartbeats 4000000 in
theorem RTurn_c (w : World) (A : Option Addr) (c0 : Nat) (L : List (List Int)) (hl : RowsAt w A L) (hb : L.length + tot L ≤ 268435456) (fl fc tl tc kd how : Int) :
    Fresh Try.prog 82 [.slice A L.length c0, rgV fl fc tl tc kd, .int .i32 how] w (TurnR (turnE L how fl fc tl tc kd) (turnS_ L how kd (regA fl fc tl tc) (regB fl fc tl tc))) := by
  refine enterF Try.func82 rfl Try.ntmps82 rfl rfl ?_
  repeat first | refine W_seq ?_ | refine W_region (by rfl) ?_
  refine W_box (cs := [_, _, _, _, _]) (by rfl) (by rfl) (by rfl) (fun b4 => ?_)
  repeat first | refine W_seq ?_ | refine W_region (by rfl) ?_ | refine W_opsnil ?_ | refine W_pure TOk (by rfl) (by first | trivial | (simp only [okI, and_true, true_and, and_self] <;> omega) | omega) ?_
  have hbad : ∀ (F : Fr) (k : List It) (M : List Ast), fget F 6 = some (.slice none 0 0) → fget F 7 = some (.int .i64 1) → badHow how →
      W (cx Try.prog Try.f82 66 w.heap.size w (FR w (TurnR (turnE L how fl fc tl tc kd) (turnS_ L how kd (regA fl fc tl tc) (regB fl fc tl tc))))) (.code .ret :: k) F M := fun F k M h6 h7 hbh => by
    have he : turnE L how fl fc tl tc kd = 1 := if_pos hbh
    rw [he]
    exact W_retF (vs := [_, _]) ⟨h6, h7, trivial⟩ (M := []) (Ent.nil _) (.inl ⟨by decide, rfl, rfl⟩)
  refine W_dec 14 (by rfl) (fun h1 => ?_) (fun h1 => ?_)
  · have h1 : how ≠ 126 := by simpa using h1
    repeat first | refine W_pure TOk (by rfl) (by first | trivial | (simp only [okI, and_true, true_and, and_self] <;> omega) | omega) ?_ | refine W_on (by rfl) (by rfl) (by rfl) ?_
    refine W_dec 18 (by rfl) (fun h2 => ?_) (fun h2 => ?_)
    · have h2 : how ≠ 117 := by simpa using h2
      repeat first | refine W_opsnil ?_ | refine W_pure TOk (by rfl) (by first | trivial | (simp only [okI, and_true, true_and, and_self] <;> omega) | omega) ?_ | refine W_on (by rfl) (by rfl) (by rfl) ?_
      refine W_cond_nd (by rfl) (fun h3 => ?_) (fun h3 => ?_)
      · repeat first | refine W_seq ?_ | refine W_region (by rfl) ?_ | refine W_opsnil ?_ | refine W_pure TOk (by rfl) (by first | trivial | (simp only [okI, and_true, true_and, and_self] <;> omega) | omega) ?_
        exact hbad _ _ _ rfl rfl ⟨h1, h2, h3⟩
      · have hhow : how = 126 ∨ how = 117 ∨ how = 85 := .inr (.inr h3)
        have hnb : ¬ badHow how := by unfold badHow; omega
        rw [show turnE L how fl fc tl tc kd = regE L fl fc tl tc kd from if_neg hnb]
        repeat first | refine W_seq ?_ | refine W_skip ?_ | refine W_region (by rfl) ?_ | refine W_pure TOk (by rfl) (by first | trivial | (simp only [okI, and_true, true_and, and_self] <;> omega) | omega) ?_ | refine W_load_boxN 0 TOk (by rfl) (by rfl) (by rfl) (by rfl) (by rfl) ?_
        refine W_callV (by rfl) Try.call116 (by rfl) (fun w1 hw => there_c w1 A c0 L (hl.below hw.below) (by omega) fl fc tl tc kd) ?_
        repeat first | refine W_seq ?_ | refine W_region (by rfl) ?_ | refine W_opsnil ?_ | refine W_pure TOk (by rfl) (by first | trivial | (simp only [okI, and_true, true_and, and_self] <;> omega) | omega) ?_
        refine W_cond_nd (by rfl) (fun hne => ?_) (fun he => ?_)
        · repeat first | refine W_seq ?_ | refine W_region (by rfl) ?_ | refine W_opsnil ?_ | refine W_pure TOk (by rfl) (by first | trivial | (simp only [okI, and_true, true_and, and_self] <;> omega) | omega) ?_
          exact W_retF (vs := [_, _]) ⟨rfl, rfl, trivial⟩ (M := []) (Ent.nil _) (.inl ⟨hne, rfl, rfl⟩)
        · obtain ⟨hok, heq⟩ := regOk he
          have hfin := rt_all how hok
          rw [← hfin]
          have hhas := fun (w1 : World) (i k : Nat) => has_c w1 L fl fc tl tc kd he i k
          generalize regA fl fc tl tc = a at *
          generalize regB fl fc tl tc = b at *
          repeat first | refine W_seq ?_ | refine W_skip ?_ | refine W_region (by rfl) ?_ | refine W_pure TOk (by rfl) (by first | trivial | (simp only [okI, and_true, true_and, and_self] <;> omega) | omega) ?_
          refine W_call _ (by rfl) Try.call46 (by rfl) (fun w1 hw => Twin_c w1 A c0 L (hl.below hw.below) (by omega)) ?_; rintro _ _ ⟨A9, c9, vs, rfl, hvs, rfl⟩; dsimp only [List.cons_append, List.nil_append]
          repeat first | refine W_seq ?_ | refine W_block ?_ | refine W_region (by rfl) ?_ | refine W_opsnil ?_ | refine W_pure TOk (by rfl) (by first | trivial | (simp only [okI, and_true, true_and, and_self] <;> omega) | omega) ?_
          refine W_loop (ι := Nat) (fun i => [(2, .int .i32 how), (4, .pointer (some ⟨b4, 0, none⟩)), (9, .slice A9 L.length c9), (10, .int .i64 (i : Nat))]) (fun i => [box b4 51 [.int .i64 fl, .int .i64 fc, .int .i64 tl, .int .i64 tc, .int .i64 kd], own 48 1 A9 L.length c9 vs, rowsA vs (RT how kd a b L i)])
            (fun i => i ≤ L.length) (fun i => L.length - i) 0 (by omega) ⟨rfl, rfl, rfl, rfl, trivial⟩ ?_ ?_
          · rw [rt_zero]; exact (Ent.sel [2, 0, 0] _ (by rfl))
          intro i hi
          repeat first | refine W_seq ?_ | refine W_region (by rfl) ?_ | refine W_opsnil ?_ | refine W_pure TOk (by rfl) (by first | trivial | (simp only [okI, and_true, true_and, and_self] <;> omega) | omega) ?_
          refine W_cond_d (by rfl) (fun hlt => ?_) (fun hge => ?_)
          · have hil : i < L.length := by omega
            have hrl := rt_len how kd a b L i
            obtain ⟨v, hv⟩ : ∃ v, vs[i]? = some v := ⟨_, List.getElem?_eq_getElem (by omega)⟩
            have hr0 := rt_at how kd a b hil
            have hnext := rt_next how kd a b hil
            have hxl := rowN_len (xss := L) (i := i) hil
            generalize hrr : rowN L i = r0 at *
            refine W_pick 2 (by rfl) ?_
            refine W_ent (rowsA_split vs (RT how kd a b L i) (by rw [hvs, hrl]) hv hr0 _) ?_
            refine W_rowA (fun A2 c2 hvA => ?_)
            subst hvA
            repeat first | refine W_seq ?_ | refine W_skip ?_ | refine W_block ?_ | refine W_region (by rfl) ?_ | refine W_opsnil ?_ | refine W_pure TOk (by rfl) (by first | trivial | (simp only [okI, and_true, true_and, and_self] <;> omega) | omega) ?_
            refine W_loop (ι := Nat) (fun k => [(2, .int .i32 how), (4, .pointer (some ⟨b4, 0, none⟩)), (9, .slice A9 L.length c9), (10, .int .i64 (i : Nat)), (11, .int .i64 (k : Nat))]) (fun k => [own 21 1 A2 r0.length c2 (i32s (turnP how (fun j => decide (j < k) && hasS kd a b i j) r0)), rowsA (vs.take i) ((RT how kd a b L i).take i), rowsA (vs.drop (i + 1)) ((RT how kd a b L i).drop (i + 1)), box b4 51 [.int .i64 fl, .int .i64 fc, .int .i64 tl, .int .i64 tc, .int .i64 kd], own 48 1 A9 L.length c9 vs])
              (fun k => k ≤ r0.length) (fun k => r0.length - k) 0 (by omega) ⟨rfl, rfl, rfl, rfl, rfl, trivial⟩ ?_ ?_
            · rw [turnP_none (fun j _ => by simp)]
              exact Ent.refl _
            intro k hk
            repeat first | refine W_seq ?_ | refine W_region (by rfl) ?_ | refine W_pure TOk (by rfl) (by first | trivial | (simp only [okI, and_true, true_and, and_self] <;> omega) | omega) ?_
            refine W_index TOk (by rfl) (by rfl) (by rfl) (by first | exact es48 | exact es22 | exact es136 | exact es150 | exact es223 | exact es29 | exact es132 | exact es207) (by omega) (by omega) (fun w1 hw => (hw.hp.cells 4 rfl).isSome (by omega)) ?_
            refine W_load TOk (by rfl) (by rfl) (by rfl) (fun w1 hw => (hw.hp.cells 4 rfl).elem1 (by rw [Int.toNat_natCast]; exact hv)) ?_
            repeat first | refine W_opsnil ?_ | refine W_pure TOk (by rfl) (by first | trivial | (simp only [okI, and_true, true_and, and_self] <;> omega) | omega) ?_
            refine W_cond_d (by rfl) (fun hlt2 => ?_) (fun hge2 => ?_)
            · have hkx : k < r0.length := by omega
              have hXl := turnP_len how (fun j => decide (j < k) && hasS kd a b i j) r0
              have hrd : rd (turnP how (fun j => decide (j < k) && hasS kd a b i j) r0) (k : Int) = rd r0 (k : Int) := turnP_rd hkx (by simp)
              have hset : hasS kd a b i k = true → (turnP how (fun j => decide (j < k) && hasS kd a b i j) r0).set k (turnS how (rd r0 (k : Int))) = turnP how (fun j => decide (j < k + 1) && hasS kd a b i j) r0 := fun h => turnP_set hkx (by rw [if_pos h])
              have hskip : hasS kd a b i k = false → turnP how (fun j => decide (j < k) && hasS kd a b i j) r0 = turnP how (fun j => decide (j < k + 1) && hasS kd a b i j) r0 := fun h => turnP_skip hkx (fun h2 => by rw [h] at h2; cases h2)
              generalize turnP how (fun j => decide (j < k) && hasS kd a b i j) r0 = X at *
              have hgv : (i32s X)[((k : Int)).toNat]? = some (.int .i32 (rd r0 (k : Int))) := by rw [← hrd]; exact i32s_get (by omega) (by omega)
              generalize rd r0 (k : Int) = r at *
              repeat first | refine W_seq ?_ | refine W_skip ?_ | refine W_block ?_ | refine W_region (by rfl) ?_ | refine W_pure TOk (by rfl) (by first | trivial | (simp only [okI, and_true, true_and, and_self] <;> omega) | omega) ?_ | refine W_load_boxN 3 TOk (by rfl) (by rfl) (by rfl) (by rfl) (by rfl) ?_
              refine W_callV (by rfl) Try.call151 (by rfl) (fun w1 hw => hhas w1 i k) ?_
              repeat first | refine W_opsnil ?_
              refine W_dec 49 (by rfl) (fun hh => ?_) (fun hh => ?_)
              · repeat first | refine W_cond_t (by rfl) ?_
                refine W_draw (fun w1 => St _ _ w1 [own 48 1 A9 L.length c9 vs, own 21 1 A2 r0.length c2 (i32s X)]) [15] [(0, 0), (1, 0), (2, 0), (3, 0), (4, 0), (5, 0), (6, 0), (7, 0), (8, 0), (9, 0), (10, 0), (11, 0), (12, 0), (13, 1), (14, 0), (15, 2)] (by kernel_rfl) (fun _ h => h.ent (Ent.sel [4, 0] _ (by rfl))) (by rfl) (by kernel_rfl) (fun hB => ?_)
                repeat first | refine D_pure TOk (by kernel_rfl) hB (by rfl) (by rfl) (by first | trivial | (simp only [okI, and_true, true_and, and_self] <;> omega) | omega) (fun hB => ?_)
                refine D_index TOk (by kernel_rfl) hB (by rfl) (by rfl) (fun _ h => h.ent (Ent.sel [4, 0] _ (by rfl))) (fun _ h => h) (by rfl) (by rfl) (by rfl) (by first | exact es48 | exact es22 | exact es136 | exact es150 | exact es223 | exact es29 | exact es132 | exact es207) (by omega) (by omega) (fun w1 hw => (hw.hp.cells 0 rfl).isSome (by omega)) (fun hB => ?_)
                refine D_load TOk (by kernel_rfl) hB (by rfl) (by rfl) (fun _ h => h.ent (Ent.sel [4, 0] _ (by rfl))) (fun _ h => h) (by rfl) (by rfl) (by rfl) (fun w1 hw => (hw.hp.cells 0 rfl).elem1 (by rw [Int.toNat_natCast]; exact hv)) (fun hB => ?_)
                repeat first | refine D_pure TOk (by kernel_rfl) hB (by rfl) (by rfl) (by first | trivial | (simp only [okI, and_true, true_and, and_self] <;> omega) | omega) (fun hB => ?_)
                refine D_index TOk (by kernel_rfl) hB (by rfl) (by rfl) (fun _ h => h.ent (Ent.sel [4, 0] _ (by rfl))) (fun _ h => h) (by rfl) (by rfl) (by rfl) (by first | exact es48 | exact es22 | exact es136 | exact es150 | exact es223 | exact es29 | exact es132 | exact es207) (by omega) (by omega) (fun w1 hw => (hw.hp.cells 0 rfl).isSome (by omega)) (fun hB => ?_)
                refine D_load TOk (by kernel_rfl) hB (by rfl) (by rfl) (fun _ h => h.ent (Ent.sel [4, 0] _ (by rfl))) (fun _ h => h) (by rfl) (by rfl) (by rfl) (fun w1 hw => (hw.hp.cells 0 rfl).elem1 (by rw [Int.toNat_natCast]; exact hv)) (fun hB => ?_)
                repeat first | refine D_pure TOk (by kernel_rfl) hB (by rfl) (by rfl) (by first | trivial | (simp only [okI, and_true, true_and, and_self] <;> omega) | omega) (fun hB => ?_)
                refine D_index TOk (by kernel_rfl) hB (by rfl) (by rfl) (fun _ h => h.ent (Ent.sel [4, 0] _ (by rfl))) (fun _ h => h) (by rfl) (by rfl) (by rfl) (by first | exact es48 | exact es22 | exact es136 | exact es150 | exact es223 | exact es29 | exact es132 | exact es207) (by omega) (by omega) (fun w1 hw => (hw.hp.cells 1 rfl).isSome (by rw [i32s_length]; omega)) (fun hB => ?_)
                refine D_load TOk (by kernel_rfl) hB (by rfl) (by rfl) (fun _ h => h.ent (Ent.sel [4, 0] _ (by rfl))) (fun _ h => h) (by rfl) (by rfl) (by rfl) (fun w1 hw => (hw.hp.cells 1 rfl).elem1 hgv) (fun hB => ?_)
                repeat first | refine D_pure TOk (by kernel_rfl) hB (by rfl) (by rfl) (by first | trivial | (simp only [okI, and_true, true_and, and_self] <;> omega) | omega) (fun hB => ?_)
                refine D_one hB (by rfl) (fun hB => ?_)
                refine W_callV (by rfl) Try.call152 (by rfl) (fun w1 hw => turned_c w1 r how) ?_
                repeat first | refine W_opsnil ?_
                refine D_shown (fun _ h => h.ent (Ent.sel [4, 0] _ (by rfl))) ?_
                refine D_index TOk (by kernel_rfl) hB (by rfl) (by rfl) (fun _ h => h.ent (Ent.sel [4, 0] _ (by rfl))) (fun _ h => h) (by rfl) (by rfl) (by rfl) (by first | exact es48 | exact es22 | exact es136 | exact es150 | exact es223 | exact es29 | exact es132 | exact es207) (by omega) (by omega) (fun w1 hw => (hw.hp.cells 1 rfl).isSome (by rw [i32s_length]; omega)) (fun hB => ?_)
                refine D_last hB (by rfl) (fun hB => ?_)
                refine W_store_own 0 TOk (by rfl) ptr_at (by rfl) (by rfl) (by rfl) (by simp only [vcells, List.length_cons, List.length_nil]; omega) (by omega) (by rfl) ?_
                simp only [Int.toNat_natCast, Nat.mul_one, vcells, i32s_put, setL]
                repeat first | refine W_opsnil ?_
                repeat first | refine D_done hB ?_
                repeat first | refine W_blk ?_ | refine W_region (by rfl) ?_ | refine W_opsnil ?_ | refine W_pure TOk (by rfl) (by first | trivial | (simp only [okI, and_true, true_and, and_self] <;> omega) | omega) ?_
                exact W_inv (k + 1) (by omega) (by omega) ⟨rfl, rfl, rfl, rfl, rfl, trivial⟩ (by rw [← hset hh]; exact Ent.refl _)
              · repeat first | refine W_skip ?_ | refine W_blk ?_ | refine W_region (by rfl) ?_ | refine W_opsnil ?_ | refine W_pure TOk (by rfl) (by first | trivial | (simp only [okI, and_true, true_and, and_self] <;> omega) | omega) ?_ | refine W_cond_f (by rfl) ?_
                exact W_inv (k + 1) (by omega) (by omega) ⟨rfl, rfl, rfl, rfl, rfl, trivial⟩ (by rw [← hskip hh]; exact Ent.refl _)
            · have hke : k = r0.length := by omega
              have htr : turnP how (fun j => decide (j < k) && hasS kd a b i j) r0 = TRw how kd a b i r0 := turnP_congr (fun j hj => by rw [decide_eq_true (by omega), Bool.true_and])
              rw [htr]
              have htl : (TRw how kd a b i r0).length = r0.length := turnP_len ..
              generalize TRw how kd a b i r0 = r at *
              rw [← htl] at hv ⊢
              refine W_ent (Ent.rowA_in A2 c2 r _) ?_
              refine W_ent (rowsA_join vs (RT how kd a b L i) (by rw [hvs, hrl]) (by omega) _) ?_
              rw [set_same hv, hnext]
              repeat first | refine W_blk ?_ | refine W_exit (by rfl) ?_ | refine W_region (by rfl) ?_ | refine W_opsnil ?_ | refine W_pure TOk (by rfl) (by first | trivial | (simp only [okI, and_true, true_and, and_self] <;> omega) | omega) ?_
              exact W_inv (i + 1) (by omega) (by omega) ⟨rfl, rfl, rfl, rfl, trivial⟩ (Ent.sel [1, 1, 0] _ (by rfl))
          · have hie : i = L.length := by omega
            subst hie
            repeat first | refine W_seq ?_ | refine W_exit (by rfl) ?_ | refine W_region (by rfl) ?_ | refine W_opsnil ?_ | refine W_pure TOk (by rfl) (by first | trivial | (simp only [okI, and_true, true_and, and_self] <;> omega) | omega) ?_
            have hrl := rt_len how kd a b L L.length
            generalize RT how kd a b L L.length = R at *
            rw [← hrl]
            exact W_retF (vs := [_, _]) ⟨rfl, rfl, trivial⟩ (M := [own 48 1 A9 R.length c9 vs, rowsA vs R]) ((Ent.sel [1, 1] _ (by rfl))) (.inr ⟨he, A9, c9, vs, rfl, hvs.trans hrl.symm, rfl⟩)
    · have hhow : how = 126 ∨ how = 117 ∨ how = 85 := .inr (.inl (by simpa using h2))
      have hnb : ¬ badHow how := by unfold badHow; omega
      rw [show turnE L how fl fc tl tc kd = regE L fl fc tl tc kd from if_neg hnb]
      repeat first | refine W_seq ?_ | refine W_skip ?_ | refine W_region (by rfl) ?_ | refine W_opsnil ?_ | refine W_pure TOk (by rfl) (by first | trivial | (simp only [okI, and_true, true_and, and_self] <;> omega) | omega) ?_ | refine W_off (by rfl) (by rfl) (by rfl) (by rfl) (by rfl) ?_ | refine W_cond_f (by rfl) ?_ | refine W_load_boxN 0 TOk (by rfl) (by rfl) (by rfl) (by rfl) (by rfl) ?_
      refine W_callV (by rfl) Try.call116 (by rfl) (fun w1 hw => there_c w1 A c0 L (hl.below hw.below) (by omega) fl fc tl tc kd) ?_
      repeat first | refine W_seq ?_ | refine W_region (by rfl) ?_ | refine W_opsnil ?_ | refine W_pure TOk (by rfl) (by first | trivial | (simp only [okI, and_true, true_and, and_self] <;> omega) | omega) ?_
      refine W_cond_nd (by rfl) (fun hne => ?_) (fun he => ?_)
      · repeat first | refine W_seq ?_ | refine W_region (by rfl) ?_ | refine W_opsnil ?_ | refine W_pure TOk (by rfl) (by first | trivial | (simp only [okI, and_true, true_and, and_self] <;> omega) | omega) ?_
        exact W_retF (vs := [_, _]) ⟨rfl, rfl, trivial⟩ (M := []) (Ent.nil _) (.inl ⟨hne, rfl, rfl⟩)
      · obtain ⟨hok, heq⟩ := regOk he
        have hfin := rt_all how hok
        rw [← hfin]
        have hhas := fun (w1 : World) (i k : Nat) => has_c w1 L fl fc tl tc kd he i k
        generalize regA fl fc tl tc = a at *
        generalize regB fl fc tl tc = b at *
        repeat first | refine W_seq ?_ | refine W_skip ?_ | refine W_region (by rfl) ?_ | refine W_pure TOk (by rfl) (by first | trivial | (simp only [okI, and_true, true_and, and_self] <;> omega) | omega) ?_
        refine W_call _ (by rfl) Try.call46 (by rfl) (fun w1 hw => Twin_c w1 A c0 L (hl.below hw.below) (by omega)) ?_; rintro _ _ ⟨A9, c9, vs, rfl, hvs, rfl⟩; dsimp only [List.cons_append, List.nil_append]
        repeat first | refine W_seq ?_ | refine W_block ?_ | refine W_region (by rfl) ?_ | refine W_opsnil ?_ | refine W_pure TOk (by rfl) (by first | trivial | (simp only [okI, and_true, true_and, and_self] <;> omega) | omega) ?_
        refine W_loop (ι := Nat) (fun i => [(2, .int .i32 how), (4, .pointer (some ⟨b4, 0, none⟩)), (9, .slice A9 L.length c9), (10, .int .i64 (i : Nat))]) (fun i => [box b4 51 [.int .i64 fl, .int .i64 fc, .int .i64 tl, .int .i64 tc, .int .i64 kd], own 48 1 A9 L.length c9 vs, rowsA vs (RT how kd a b L i)])
          (fun i => i ≤ L.length) (fun i => L.length - i) 0 (by omega) ⟨rfl, rfl, rfl, rfl, trivial⟩ ?_ ?_
        · rw [rt_zero]; exact (Ent.sel [2, 0, 0] _ (by rfl))
        intro i hi
        repeat first | refine W_seq ?_ | refine W_region (by rfl) ?_ | refine W_opsnil ?_ | refine W_pure TOk (by rfl) (by first | trivial | (simp only [okI, and_true, true_and, and_self] <;> omega) | omega) ?_
        refine W_cond_d (by rfl) (fun hlt => ?_) (fun hge => ?_)
        · have hil : i < L.length := by omega
          have hrl := rt_len how kd a b L i
          obtain ⟨v, hv⟩ : ∃ v, vs[i]? = some v := ⟨_, List.getElem?_eq_getElem (by omega)⟩
          have hr0 := rt_at how kd a b hil
          have hnext := rt_next how kd a b hil
          have hxl := rowN_len (xss := L) (i := i) hil
          generalize hrr : rowN L i = r0 at *
          refine W_pick 2 (by rfl) ?_
          refine W_ent (rowsA_split vs (RT how kd a b L i) (by rw [hvs, hrl]) hv hr0 _) ?_
          refine W_rowA (fun A2 c2 hvA => ?_)
          subst hvA
          repeat first | refine W_seq ?_ | refine W_skip ?_ | refine W_block ?_ | refine W_region (by rfl) ?_ | refine W_opsnil ?_ | refine W_pure TOk (by rfl) (by first | trivial | (simp only [okI, and_true, true_and, and_self] <;> omega) | omega) ?_
          refine W_loop (ι := Nat) (fun k => [(2, .int .i32 how), (4, .pointer (some ⟨b4, 0, none⟩)), (9, .slice A9 L.length c9), (10, .int .i64 (i : Nat)), (11, .int .i64 (k : Nat))]) (fun k => [own 21 1 A2 r0.length c2 (i32s (turnP how (fun j => decide (j < k) && hasS kd a b i j) r0)), rowsA (vs.take i) ((RT how kd a b L i).take i), rowsA (vs.drop (i + 1)) ((RT how kd a b L i).drop (i + 1)), box b4 51 [.int .i64 fl, .int .i64 fc, .int .i64 tl, .int .i64 tc, .int .i64 kd], own 48 1 A9 L.length c9 vs])
            (fun k => k ≤ r0.length) (fun k => r0.length - k) 0 (by omega) ⟨rfl, rfl, rfl, rfl, rfl, trivial⟩ ?_ ?_
          · rw [turnP_none (fun j _ => by simp)]
            exact Ent.refl _
          intro k hk
          repeat first | refine W_seq ?_ | refine W_region (by rfl) ?_ | refine W_pure TOk (by rfl) (by first | trivial | (simp only [okI, and_true, true_and, and_self] <;> omega) | omega) ?_
          refine W_index TOk (by rfl) (by rfl) (by rfl) (by first | exact es48 | exact es22 | exact es136 | exact es150 | exact es223 | exact es29 | exact es132 | exact es207) (by omega) (by omega) (fun w1 hw => (hw.hp.cells 4 rfl).isSome (by omega)) ?_
          refine W_load TOk (by rfl) (by rfl) (by rfl) (fun w1 hw => (hw.hp.cells 4 rfl).elem1 (by rw [Int.toNat_natCast]; exact hv)) ?_
          repeat first | refine W_opsnil ?_ | refine W_pure TOk (by rfl) (by first | trivial | (simp only [okI, and_true, true_and, and_self] <;> omega) | omega) ?_
          refine W_cond_d (by rfl) (fun hlt2 => ?_) (fun hge2 => ?_)
          · have hkx : k < r0.length := by omega
            have hXl := turnP_len how (fun j => decide (j < k) && hasS kd a b i j) r0
            have hrd : rd (turnP how (fun j => decide (j < k) && hasS kd a b i j) r0) (k : Int) = rd r0 (k : Int) := turnP_rd hkx (by simp)
            have hset : hasS kd a b i k = true → (turnP how (fun j => decide (j < k) && hasS kd a b i j) r0).set k (turnS how (rd r0 (k : Int))) = turnP how (fun j => decide (j < k + 1) && hasS kd a b i j) r0 := fun h => turnP_set hkx (by rw [if_pos h])
            have hskip : hasS kd a b i k = false → turnP how (fun j => decide (j < k) && hasS kd a b i j) r0 = turnP how (fun j => decide (j < k + 1) && hasS kd a b i j) r0 := fun h => turnP_skip hkx (fun h2 => by rw [h] at h2; cases h2)
            generalize turnP how (fun j => decide (j < k) && hasS kd a b i j) r0 = X at *
            have hgv : (i32s X)[((k : Int)).toNat]? = some (.int .i32 (rd r0 (k : Int))) := by rw [← hrd]; exact i32s_get (by omega) (by omega)
            generalize rd r0 (k : Int) = r at *
            repeat first | refine W_seq ?_ | refine W_skip ?_ | refine W_block ?_ | refine W_region (by rfl) ?_ | refine W_pure TOk (by rfl) (by first | trivial | (simp only [okI, and_true, true_and, and_self] <;> omega) | omega) ?_ | refine W_load_boxN 3 TOk (by rfl) (by rfl) (by rfl) (by rfl) (by rfl) ?_
            refine W_callV (by rfl) Try.call151 (by rfl) (fun w1 hw => hhas w1 i k) ?_
            repeat first | refine W_opsnil ?_
            refine W_dec 49 (by rfl) (fun hh => ?_) (fun hh => ?_)
            · repeat first | refine W_cond_t (by rfl) ?_
              refine W_draw (fun w1 => St _ _ w1 [own 48 1 A9 L.length c9 vs, own 21 1 A2 r0.length c2 (i32s X)]) [15] [(0, 0), (1, 0), (2, 0), (3, 0), (4, 0), (5, 0), (6, 0), (7, 0), (8, 0), (9, 0), (10, 0), (11, 0), (12, 0), (13, 1), (14, 0), (15, 2)] (by kernel_rfl) (fun _ h => h.ent (Ent.sel [4, 0] _ (by rfl))) (by rfl) (by kernel_rfl) (fun hB => ?_)
              repeat first | refine D_pure TOk (by kernel_rfl) hB (by rfl) (by rfl) (by first | trivial | (simp only [okI, and_true, true_and, and_self] <;> omega) | omega) (fun hB => ?_)
              refine D_index TOk (by kernel_rfl) hB (by rfl) (by rfl) (fun _ h => h.ent (Ent.sel [4, 0] _ (by rfl))) (fun _ h => h) (by rfl) (by rfl) (by rfl) (by first | exact es48 | exact es22 | exact es136 | exact es150 | exact es223 | exact es29 | exact es132 | exact es207) (by omega) (by omega) (fun w1 hw => (hw.hp.cells 0 rfl).isSome (by omega)) (fun hB => ?_)
              refine D_load TOk (by kernel_rfl) hB (by rfl) (by rfl) (fun _ h => h.ent (Ent.sel [4, 0] _ (by rfl))) (fun _ h => h) (by rfl) (by rfl) (by rfl) (fun w1 hw => (hw.hp.cells 0 rfl).elem1 (by rw [Int.toNat_natCast]; exact hv)) (fun hB => ?_)
              repeat first | refine D_pure TOk (by kernel_rfl) hB (by rfl) (by rfl) (by first | trivial | (simp only [okI, and_true, true_and, and_self] <;> omega) | omega) (fun hB => ?_)
              refine D_index TOk (by kernel_rfl) hB (by rfl) (by rfl) (fun _ h => h.ent (Ent.sel [4, 0] _ (by rfl))) (fun _ h => h) (by rfl) (by rfl) (by rfl) (by first | exact es48 | exact es22 | exact es136 | exact es150 | exact es223 | exact es29 | exact es132 | exact es207) (by omega) (by omega) (fun w1 hw => (hw.hp.cells 0 rfl).isSome (by omega)) (fun hB => ?_)
              refine D_load TOk (by kernel_rfl) hB (by rfl) (by rfl) (fun _ h => h.ent (Ent.sel [4, 0] _ (by rfl))) (fun _ h => h) (by rfl) (by rfl) (by rfl) (fun w1 hw => (hw.hp.cells 0 rfl).elem1 (by rw [Int.toNat_natCast]; exact hv)) (fun hB => ?_)
              repeat first | refine D_pure TOk (by kernel_rfl) hB (by rfl) (by rfl) (by first | trivial | (simp only [okI, and_true, true_and, and_self] <;> omega) | omega) (fun hB => ?_)
              refine D_index TOk (by kernel_rfl) hB (by rfl) (by rfl) (fun _ h => h.ent (Ent.sel [4, 0] _ (by rfl))) (fun _ h => h) (by rfl) (by rfl) (by rfl) (by first | exact es48 | exact es22 | exact es136 | exact es150 | exact es223 | exact es29 | exact es132 | exact es207) (by omega) (by omega) (fun w1 hw => (hw.hp.cells 1 rfl).isSome (by rw [i32s_length]; omega)) (fun hB => ?_)
              refine D_load TOk (by kernel_rfl) hB (by rfl) (by rfl) (fun _ h => h.ent (Ent.sel [4, 0] _ (by rfl))) (fun _ h => h) (by rfl) (by rfl) (by rfl) (fun w1 hw => (hw.hp.cells 1 rfl).elem1 hgv) (fun hB => ?_)
              repeat first | refine D_pure TOk (by kernel_rfl) hB (by rfl) (by rfl) (by first | trivial | (simp only [okI, and_true, true_and, and_self] <;> omega) | omega) (fun hB => ?_)
              refine D_one hB (by rfl) (fun hB => ?_)
              refine W_callV (by rfl) Try.call152 (by rfl) (fun w1 hw => turned_c w1 r how) ?_
              repeat first | refine W_opsnil ?_
              refine D_shown (fun _ h => h.ent (Ent.sel [4, 0] _ (by rfl))) ?_
              refine D_index TOk (by kernel_rfl) hB (by rfl) (by rfl) (fun _ h => h.ent (Ent.sel [4, 0] _ (by rfl))) (fun _ h => h) (by rfl) (by rfl) (by rfl) (by first | exact es48 | exact es22 | exact es136 | exact es150 | exact es223 | exact es29 | exact es132 | exact es207) (by omega) (by omega) (fun w1 hw => (hw.hp.cells 1 rfl).isSome (by rw [i32s_length]; omega)) (fun hB => ?_)
              refine D_last hB (by rfl) (fun hB => ?_)
              refine W_store_own 0 TOk (by rfl) ptr_at (by rfl) (by rfl) (by rfl) (by simp only [vcells, List.length_cons, List.length_nil]; omega) (by omega) (by rfl) ?_
              simp only [Int.toNat_natCast, Nat.mul_one, vcells, i32s_put, setL]
              repeat first | refine W_opsnil ?_
              repeat first | refine D_done hB ?_
              repeat first | refine W_blk ?_ | refine W_region (by rfl) ?_ | refine W_opsnil ?_ | refine W_pure TOk (by rfl) (by first | trivial | (simp only [okI, and_true, true_and, and_self] <;> omega) | omega) ?_
              exact W_inv (k + 1) (by omega) (by omega) ⟨rfl, rfl, rfl, rfl, rfl, trivial⟩ (by rw [← hset hh]; exact Ent.refl _)
            · repeat first | refine W_skip ?_ | refine W_blk ?_ | refine W_region (by rfl) ?_ | refine W_opsnil ?_ | refine W_pure TOk (by rfl) (by first | trivial | (simp only [okI, and_true, true_and, and_self] <;> omega) | omega) ?_ | refine W_cond_f (by rfl) ?_
              exact W_inv (k + 1) (by omega) (by omega) ⟨rfl, rfl, rfl, rfl, rfl, trivial⟩ (by rw [← hskip hh]; exact Ent.refl _)
          · have hke : k = r0.length := by omega
            have htr : turnP how (fun j => decide (j < k) && hasS kd a b i j) r0 = TRw how kd a b i r0 := turnP_congr (fun j hj => by rw [decide_eq_true (by omega), Bool.true_and])
            rw [htr]
            have htl : (TRw how kd a b i r0).length = r0.length := turnP_len ..
            generalize TRw how kd a b i r0 = r at *
            rw [← htl] at hv ⊢
            refine W_ent (Ent.rowA_in A2 c2 r _) ?_
            refine W_ent (rowsA_join vs (RT how kd a b L i) (by rw [hvs, hrl]) (by omega) _) ?_
            rw [set_same hv, hnext]
            repeat first | refine W_blk ?_ | refine W_exit (by rfl) ?_ | refine W_region (by rfl) ?_ | refine W_opsnil ?_ | refine W_pure TOk (by rfl) (by first | trivial | (simp only [okI, and_true, true_and, and_self] <;> omega) | omega) ?_
            exact W_inv (i + 1) (by omega) (by omega) ⟨rfl, rfl, rfl, rfl, trivial⟩ (Ent.sel [1, 1, 0] _ (by rfl))
        · have hie : i = L.length := by omega
          subst hie
          repeat first | refine W_seq ?_ | refine W_exit (by rfl) ?_ | refine W_region (by rfl) ?_ | refine W_opsnil ?_ | refine W_pure TOk (by rfl) (by first | trivial | (simp only [okI, and_true, true_and, and_self] <;> omega) | omega) ?_
          have hrl := rt_len how kd a b L L.length
          generalize RT how kd a b L L.length = R at *
          rw [← hrl]
          exact W_retF (vs := [_, _]) ⟨rfl, rfl, trivial⟩ (M := [own 48 1 A9 R.length c9 vs, rowsA vs R]) ((Ent.sel [1, 1] _ (by rfl))) (.inr ⟨he, A9, c9, vs, rfl, hvs.trans hrl.symm, rfl⟩)
  · have hhow : how = 126 ∨ how = 117 ∨ how = 85 := .inl (by simpa using h1)
    have hnb : ¬ badHow how := by unfold badHow; omega
    rw [show turnE L how fl fc tl tc kd = regE L fl fc tl tc kd from if_neg hnb]
    repeat first | refine W_seq ?_ | refine W_skip ?_ | refine W_region (by rfl) ?_ | refine W_opsnil ?_ | refine W_pure TOk (by rfl) (by first | trivial | (simp only [okI, and_true, true_and, and_self] <;> omega) | omega) ?_ | refine W_off (by rfl) (by rfl) (by rfl) (by rfl) (by rfl) ?_ | refine W_cond_f (by rfl) ?_ | refine W_load_boxN 0 TOk (by rfl) (by rfl) (by rfl) (by rfl) (by rfl) ?_
    refine W_callV (by rfl) Try.call116 (by rfl) (fun w1 hw => there_c w1 A c0 L (hl.below hw.below) (by omega) fl fc tl tc kd) ?_
    repeat first | refine W_seq ?_ | refine W_region (by rfl) ?_ | refine W_opsnil ?_ | refine W_pure TOk (by rfl) (by first | trivial | (simp only [okI, and_true, true_and, and_self] <;> omega) | omega) ?_
    refine W_cond_nd (by rfl) (fun hne => ?_) (fun he => ?_)
    · repeat first | refine W_seq ?_ | refine W_region (by rfl) ?_ | refine W_opsnil ?_ | refine W_pure TOk (by rfl) (by first | trivial | (simp only [okI, and_true, true_and, and_self] <;> omega) | omega) ?_
      exact W_retF (vs := [_, _]) ⟨rfl, rfl, trivial⟩ (M := []) (Ent.nil _) (.inl ⟨hne, rfl, rfl⟩)
    · obtain ⟨hok, heq⟩ := regOk he
      have hfin := rt_all how hok
      rw [← hfin]
      have hhas := fun (w1 : World) (i k : Nat) => has_c w1 L fl fc tl tc kd he i k
      generalize regA fl fc tl tc = a at *
      generalize regB fl fc tl tc = b at *
      repeat first | refine W_seq ?_ | refine W_skip ?_ | refine W_region (by rfl) ?_ | refine W_pure TOk (by rfl) (by first | trivial | (simp only [okI, and_true, true_and, and_self] <;> omega) | omega) ?_
      refine W_call _ (by rfl) Try.call46 (by rfl) (fun w1 hw => Twin_c w1 A c0 L (hl.below hw.below) (by omega)) ?_; rintro _ _ ⟨A9, c9, vs, rfl, hvs, rfl⟩; dsimp only [List.cons_append, List.nil_append]
      repeat first | refine W_seq ?_ | refine W_block ?_ | refine W_region (by rfl) ?_ | refine W_opsnil ?_ | refine W_pure TOk (by rfl) (by first | trivial | (simp only [okI, and_true, true_and, and_self] <;> omega) | omega) ?_
      refine W_loop (ι := Nat) (fun i => [(2, .int .i32 how), (4, .pointer (some ⟨b4, 0, none⟩)), (9, .slice A9 L.length c9), (10, .int .i64 (i : Nat))]) (fun i => [box b4 51 [.int .i64 fl, .int .i64 fc, .int .i64 tl, .int .i64 tc, .int .i64 kd], own 48 1 A9 L.length c9 vs, rowsA vs (RT how kd a b L i)])
        (fun i => i ≤ L.length) (fun i => L.length - i) 0 (by omega) ⟨rfl, rfl, rfl, rfl, trivial⟩ ?_ ?_
      · rw [rt_zero]; exact (Ent.sel [2, 0, 0] _ (by rfl))
      intro i hi
      repeat first | refine W_seq ?_ | refine W_region (by rfl) ?_ | refine W_opsnil ?_ | refine W_pure TOk (by rfl) (by first | trivial | (simp only [okI, and_true, true_and, and_self] <;> omega) | omega) ?_
      refine W_cond_d (by rfl) (fun hlt => ?_) (fun hge => ?_)
      · have hil : i < L.length := by omega
        have hrl := rt_len how kd a b L i
        obtain ⟨v, hv⟩ : ∃ v, vs[i]? = some v := ⟨_, List.getElem?_eq_getElem (by omega)⟩
        have hr0 := rt_at how kd a b hil
        have hnext := rt_next how kd a b hil
        have hxl := rowN_len (xss := L) (i := i) hil
        generalize hrr : rowN L i = r0 at *
        refine W_pick 2 (by rfl) ?_
        refine W_ent (rowsA_split vs (RT how kd a b L i) (by rw [hvs, hrl]) hv hr0 _) ?_
        refine W_rowA (fun A2 c2 hvA => ?_)
        subst hvA
        repeat first | refine W_seq ?_ | refine W_skip ?_ | refine W_block ?_ | refine W_region (by rfl) ?_ | refine W_opsnil ?_ | refine W_pure TOk (by rfl) (by first | trivial | (simp only [okI, and_true, true_and, and_self] <;> omega) | omega) ?_
        refine W_loop (ι := Nat) (fun k => [(2, .int .i32 how), (4, .pointer (some ⟨b4, 0, none⟩)), (9, .slice A9 L.length c9), (10, .int .i64 (i : Nat)), (11, .int .i64 (k : Nat))]) (fun k => [own 21 1 A2 r0.length c2 (i32s (turnP how (fun j => decide (j < k) && hasS kd a b i j) r0)), rowsA (vs.take i) ((RT how kd a b L i).take i), rowsA (vs.drop (i + 1)) ((RT how kd a b L i).drop (i + 1)), box b4 51 [.int .i64 fl, .int .i64 fc, .int .i64 tl, .int .i64 tc, .int .i64 kd], own 48 1 A9 L.length c9 vs])
          (fun k => k ≤ r0.length) (fun k => r0.length - k) 0 (by omega) ⟨rfl, rfl, rfl, rfl, rfl, trivial⟩ ?_ ?_
        · rw [turnP_none (fun j _ => by simp)]
          exact Ent.refl _
        intro k hk
        repeat first | refine W_seq ?_ | refine W_region (by rfl) ?_ | refine W_pure TOk (by rfl) (by first | trivial | (simp only [okI, and_true, true_and, and_self] <;> omega) | omega) ?_
        refine W_index TOk (by rfl) (by rfl) (by rfl) (by first | exact es48 | exact es22 | exact es136 | exact es150 | exact es223 | exact es29 | exact es132 | exact es207) (by omega) (by omega) (fun w1 hw => (hw.hp.cells 4 rfl).isSome (by omega)) ?_
        refine W_load TOk (by rfl) (by rfl) (by rfl) (fun w1 hw => (hw.hp.cells 4 rfl).elem1 (by rw [Int.toNat_natCast]; exact hv)) ?_
        repeat first | refine W_opsnil ?_ | refine W_pure TOk (by rfl) (by first | trivial | (simp only [okI, and_true, true_and, and_self] <;> omega) | omega) ?_
        refine W_cond_d (by rfl) (fun hlt2 => ?_) (fun hge2 => ?_)
        · have hkx : k < r0.length := by omega
          have hXl := turnP_len how (fun j => decide (j < k) && hasS kd a b i j) r0
          have hrd : rd (turnP how (fun j => decide (j < k) && hasS kd a b i j) r0) (k : Int) = rd r0 (k : Int) := turnP_rd hkx (by simp)
          have hset : hasS kd a b i k = true → (turnP how (fun j => decide (j < k) && hasS kd a b i j) r0).set k (turnS how (rd r0 (k : Int))) = turnP how (fun j => decide (j < k + 1) && hasS kd a b i j) r0 := fun h => turnP_set hkx (by rw [if_pos h])
          have hskip : hasS kd a b i k = false → turnP how (fun j => decide (j < k) && hasS kd a b i j) r0 = turnP how (fun j => decide (j < k + 1) && hasS kd a b i j) r0 := fun h => turnP_skip hkx (fun h2 => by rw [h] at h2; cases h2)
          generalize turnP how (fun j => decide (j < k) && hasS kd a b i j) r0 = X at *
          have hgv : (i32s X)[((k : Int)).toNat]? = some (.int .i32 (rd r0 (k : Int))) := by rw [← hrd]; exact i32s_get (by omega) (by omega)
          generalize rd r0 (k : Int) = r at *
          repeat first | refine W_seq ?_ | refine W_skip ?_ | refine W_block ?_ | refine W_region (by rfl) ?_ | refine W_pure TOk (by rfl) (by first | trivial | (simp only [okI, and_true, true_and, and_self] <;> omega) | omega) ?_ | refine W_load_boxN 3 TOk (by rfl) (by rfl) (by rfl) (by rfl) (by rfl) ?_
          refine W_callV (by rfl) Try.call151 (by rfl) (fun w1 hw => hhas w1 i k) ?_
          repeat first | refine W_opsnil ?_
          refine W_dec 49 (by rfl) (fun hh => ?_) (fun hh => ?_)
          · repeat first | refine W_cond_t (by rfl) ?_
            refine W_draw (fun w1 => St _ _ w1 [own 48 1 A9 L.length c9 vs, own 21 1 A2 r0.length c2 (i32s X)]) [15] [(0, 0), (1, 0), (2, 0), (3, 0), (4, 0), (5, 0), (6, 0), (7, 0), (8, 0), (9, 0), (10, 0), (11, 0), (12, 0), (13, 1), (14, 0), (15, 2)] (by kernel_rfl) (fun _ h => h.ent (Ent.sel [4, 0] _ (by rfl))) (by rfl) (by kernel_rfl) (fun hB => ?_)
            repeat first | refine D_pure TOk (by kernel_rfl) hB (by rfl) (by rfl) (by first | trivial | (simp only [okI, and_true, true_and, and_self] <;> omega) | omega) (fun hB => ?_)
            refine D_index TOk (by kernel_rfl) hB (by rfl) (by rfl) (fun _ h => h.ent (Ent.sel [4, 0] _ (by rfl))) (fun _ h => h) (by rfl) (by rfl) (by rfl) (by first | exact es48 | exact es22 | exact es136 | exact es150 | exact es223 | exact es29 | exact es132 | exact es207) (by omega) (by omega) (fun w1 hw => (hw.hp.cells 0 rfl).isSome (by omega)) (fun hB => ?_)
            refine D_load TOk (by kernel_rfl) hB (by rfl) (by rfl) (fun _ h => h.ent (Ent.sel [4, 0] _ (by rfl))) (fun _ h => h) (by rfl) (by rfl) (by rfl) (fun w1 hw => (hw.hp.cells 0 rfl).elem1 (by rw [Int.toNat_natCast]; exact hv)) (fun hB => ?_)
            repeat first | refine D_pure TOk (by kernel_rfl) hB (by rfl) (by rfl) (by first | trivial | (simp only [okI, and_true, true_and, and_self] <;> omega) | omega) (fun hB => ?_)
            refine D_index TOk (by kernel_rfl) hB (by rfl) (by rfl) (fun _ h => h.ent (Ent.sel [4, 0] _ (by rfl))) (fun _ h => h) (by rfl) (by rfl) (by rfl) (by first | exact es48 | exact es22 | exact es136 | exact es150 | exact es223 | exact es29 | exact es132 | exact es207) (by omega) (by omega) (fun w1 hw => (hw.hp.cells 0 rfl).isSome (by omega)) (fun hB => ?_)
            refine D_load TOk (by kernel_rfl) hB (by rfl) (by rfl) (fun _ h => h.ent (Ent.sel [4, 0] _ (by rfl))) (fun _ h => h) (by rfl) (by rfl) (by rfl) (fun w1 hw => (hw.hp.cells 0 rfl).elem1 (by rw [Int.toNat_natCast]; exact hv)) (fun hB => ?_)
            repeat first | refine D_pure TOk (by kernel_rfl) hB (by rfl) (by rfl) (by first | trivial | (simp only [okI, and_true, true_and, and_self] <;> omega) | omega) (fun hB => ?_)
            refine D_index TOk (by kernel_rfl) hB (by rfl) (by rfl) (fun _ h => h.ent (Ent.sel [4, 0] _ (by rfl))) (fun _ h => h) (by rfl) (by rfl) (by rfl) (by first | exact es48 | exact es22 | exact es136 | exact es150 | exact es223 | exact es29 | exact es132 | exact es207) (by omega) (by omega) (fun w1 hw => (hw.hp.cells 1 rfl).isSome (by rw [i32s_length]; omega)) (fun hB => ?_)
            refine D_load TOk (by kernel_rfl) hB (by rfl) (by rfl) (fun _ h => h.ent (Ent.sel [4, 0] _ (by rfl))) (fun _ h => h) (by rfl) (by rfl) (by rfl) (fun w1 hw => (hw.hp.cells 1 rfl).elem1 hgv) (fun hB => ?_)
            repeat first | refine D_pure TOk (by kernel_rfl) hB (by rfl) (by rfl) (by first | trivial | (simp only [okI, and_true, true_and, and_self] <;> omega) | omega) (fun hB => ?_)
            refine D_one hB (by rfl) (fun hB => ?_)
            refine W_callV (by rfl) Try.call152 (by rfl) (fun w1 hw => turned_c w1 r how) ?_
            repeat first | refine W_opsnil ?_
            refine D_shown (fun _ h => h.ent (Ent.sel [4, 0] _ (by rfl))) ?_
            refine D_index TOk (by kernel_rfl) hB (by rfl) (by rfl) (fun _ h => h.ent (Ent.sel [4, 0] _ (by rfl))) (fun _ h => h) (by rfl) (by rfl) (by rfl) (by first | exact es48 | exact es22 | exact es136 | exact es150 | exact es223 | exact es29 | exact es132 | exact es207) (by omega) (by omega) (fun w1 hw => (hw.hp.cells 1 rfl).isSome (by rw [i32s_length]; omega)) (fun hB => ?_)
            refine D_last hB (by rfl) (fun hB => ?_)
            refine W_store_own 0 TOk (by rfl) ptr_at (by rfl) (by rfl) (by rfl) (by simp only [vcells, List.length_cons, List.length_nil]; omega) (by omega) (by rfl) ?_
            simp only [Int.toNat_natCast, Nat.mul_one, vcells, i32s_put, setL]
            repeat first | refine W_opsnil ?_
            repeat first | refine D_done hB ?_
            repeat first | refine W_blk ?_ | refine W_region (by rfl) ?_ | refine W_opsnil ?_ | refine W_pure TOk (by rfl) (by first | trivial | (simp only [okI, and_true, true_and, and_self] <;> omega) | omega) ?_
            exact W_inv (k + 1) (by omega) (by omega) ⟨rfl, rfl, rfl, rfl, rfl, trivial⟩ (by rw [← hset hh]; exact Ent.refl _)
          · repeat first | refine W_skip ?_ | refine W_blk ?_ | refine W_region (by rfl) ?_ | refine W_opsnil ?_ | refine W_pure TOk (by rfl) (by first | trivial | (simp only [okI, and_true, true_and, and_self] <;> omega) | omega) ?_ | refine W_cond_f (by rfl) ?_
            exact W_inv (k + 1) (by omega) (by omega) ⟨rfl, rfl, rfl, rfl, rfl, trivial⟩ (by rw [← hskip hh]; exact Ent.refl _)
        · have hke : k = r0.length := by omega
          have htr : turnP how (fun j => decide (j < k) && hasS kd a b i j) r0 = TRw how kd a b i r0 := turnP_congr (fun j hj => by rw [decide_eq_true (by omega), Bool.true_and])
          rw [htr]
          have htl : (TRw how kd a b i r0).length = r0.length := turnP_len ..
          generalize TRw how kd a b i r0 = r at *
          rw [← htl] at hv ⊢
          refine W_ent (Ent.rowA_in A2 c2 r _) ?_
          refine W_ent (rowsA_join vs (RT how kd a b L i) (by rw [hvs, hrl]) (by omega) _) ?_
          rw [set_same hv, hnext]
          repeat first | refine W_blk ?_ | refine W_exit (by rfl) ?_ | refine W_region (by rfl) ?_ | refine W_opsnil ?_ | refine W_pure TOk (by rfl) (by first | trivial | (simp only [okI, and_true, true_and, and_self] <;> omega) | omega) ?_
          exact W_inv (i + 1) (by omega) (by omega) ⟨rfl, rfl, rfl, rfl, trivial⟩ (Ent.sel [1, 1, 0] _ (by rfl))
      · have hie : i = L.length := by omega
        subst hie
        repeat first | refine W_seq ?_ | refine W_exit (by rfl) ?_ | refine W_region (by rfl) ?_ | refine W_opsnil ?_ | refine W_pure TOk (by rfl) (by first | trivial | (simp only [okI, and_true, true_and, and_self] <;> omega) | omega) ?_
        have hrl := rt_len how kd a b L L.length
        generalize RT how kd a b L L.length = R at *
        rw [← hrl]
        exact W_retF (vs := [_, _]) ⟨rfl, rfl, trivial⟩ (M := [own 48 1 A9 R.length c9 vs, rowsA vs R]) ((Ent.sel [1, 1] _ (by rfl))) (.inr ⟨he, A9, c9, vs, rfl, hvs.trans hrl.symm, rfl⟩)
end Go.Proofs.Ytdfibmbedjpcgaa
