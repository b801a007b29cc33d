/- OperFlat: a region of lines is a region of runes. -/
import Derived.Test.YtdfibmbedjpcgaaO11
import Derived.Test.YtdfibmbedjpcgaaW2
import Derived.Test.YtdfibmbedjpcgaaW1
import Derived.Test.YtdfibmbedjpcgaaLf
set_option linter.unusedVariables false
set_option linter.unusedSimpArgs false
namespace Go.Proofs.Ytdfibmbedjpcgaa
open Go Go.RowKit Eng Ls
attribute [local irreducible] Eng.W

theorem refAtA {B : Nat} {w : World} {M : List Ast} (i : Nat) (h : Hp B w M) {b : Nat} {L : List (List Int)} {A : Option Addr} {c : Nat} {t : TypeId} (hi : M[i]? = some (box b t [.slice A L.length c])) (hr : RowsAt w A L) (hc : L.length ≤ c) : RefAt w b L := by
  obtain ⟨S1, g1, _⟩ := h.nth i hi
  exact ⟨A, c, BoxAt.of g1, hr, hc⟩
theorem cells_to {w : World} {A : Option Addr} {x : List Int} (h : Cells w A (i32s x)) (F c : Nat) (hF : F ≤ c) : Cells w (cutA A 0 c 1) (i32s (x.take F)) := by
  have := h.cut32 0 F c hF
  rwa [List.drop_zero, Nat.sub_zero] at this
theorem cells_from {w : World} {A : Option Addr} {x : List Int} (h : Cells w A (i32s x)) (T c : Nat) (hF : x.length ≤ c) : Cells w (cutA A T c 1) (i32s (x.drop T)) := by
  have := h.cut32 T x.length c hF
  rwa [dropc] at this
theorem clip_idem {L : List (List Int)} {i c : Nat} (h : i < L.length) (hc : c ≤ (rowN L i).length - 1) : clipS L (i : Nat) (c : Nat) = (i, c) := by
  have e : clp L.length (i : Nat) = i := by unfold clp; rw [Int.toNat_natCast]; omega
  unfold clipS
  rw [e]
  unfold clp
  rw [Int.toNat_natCast, Nat.min_eq_left hc]
theorem reg_clip {L : List (List Int)} {p q : Nat × Nat} (h1 : p.1 < L.length) (h2 : p.2 ≤ (rowN L p.1).length - 1) (h3 : q.1 < L.length) (h4 : q.2 ≤ (rowN L q.1).length - 1) : regE L (p.1 : Nat) (p.2 : Nat) (q.1 : Nat) (q.2 : Nat) 0 = 0 := by
  unfold regE
  rw [clip_idem h1 h2, clip_idem h3 h4, if_neg (by decide), if_neg (fun h => h.elim (fun h => by omega) (fun h => h.elim (fun h => h ⟨rfl, rfl⟩) (fun h => h ⟨rfl, rfl⟩)))]
theorem pre_mono {L : List (List Int)} {i : Nat} : ∀ k, i + k < L.length + 1 → (preJ (L.take i)).length + (if k = 0 then 0 else (rowN L i).length + 1) ≤ (preJ (L.take (i + k))).length
  | 0, _ => by simp
  | k + 1, h => by
    have ih := pre_mono (L := L) (i := i) k (by omega)
    have hp := congrArg List.length (take_pre (L := L) (i := i + k) (by omega))
    rw [List.length_append, List.length_append, List.length_singleton] at hp
    rw [show i + (k + 1) = i + k + 1 by omega, hp, if_neg (by omega)]
    rcases Nat.eq_zero_or_pos k with rfl | hk
    · simp only [Nat.add_zero]; omega
    · rw [if_neg (by omega)] at ih; omega
theorem pre_ord {L : List (List Int)} {a b : Nat × Nat} (hab : a.1 ≤ b.1) (hb : b.1 < L.length) (ha : a.2 ≤ (rowN L a.1).length) (h : a.1 = b.1 → a.2 ≤ b.2) : (preJ (L.take a.1)).length + a.2 ≤ (preJ (L.take b.1)).length + endT L b := by
  obtain ⟨k, hk⟩ : ∃ k, b.1 = a.1 + k := ⟨b.1 - a.1, by omega⟩
  have hm := pre_mono (L := L) (i := a.1) k (by omega)
  rw [← hk] at hm
  rcases Nat.eq_zero_or_pos k with rfl | hk0
  · have he : a.1 = b.1 := by omega
    have := h he
    rw [he] at ha ⊢
    unfold endT
    omega
  · rw [if_neg (by omega)] at hm; omega
set_option maxRecDepth 4000 in
set_option maxHeartbeats 16000000 in
theorem OperFlat_c (w : World) (A0 : Option Addr) (c0 : Nat) (xss : List (List Int)) (hl : RowsAt w A0 xss) (hc : xss.length ≤ c0) (hb : xss.length ≤ 300 → tot xss ≤ 36028797018963968) (n0 m0 n1 m1 : Int) :
    Val Try.prog 9 [.slice A0 xss.length c0, pos n0 m0, pos n1 m1] w (.bool true) := by
  refine enterF Try.func9 rfl Try.ntmps9 rfl rfl ?_
  repeat first | refine W_seq ?_ | refine W_region (by rfl) ?_
  refine W_box (cs := [_, _]) (by rfl) (by rfl) (by rfl) (fun b4 => ?_)
  refine W_box (cs := [_, _]) (by rfl) (by rfl) (by rfl) (fun b5 => ?_)
  repeat first | refine W_seq ?_ | refine W_region (by rfl) ?_ | refine W_opsnil ?_ | refine W_pure TOk (by rfl) (by first | trivial | (simp only [okI, and_true, true_and, and_self] <;> omega) | omega) ?_
  refine W_callV (by rfl) Try.call45 (by rfl) (fun w1 hw => Fit_c w1 A0 c0 xss (hl.below hw.below) hb) ?_
  repeat first | refine W_pure TOk (by rfl) (by first | trivial | (simp only [okI, and_true, true_and, and_self] <;> omega) | omega) ?_
  refine W_dec 23 (by rfl) (fun hs => ?_) (fun hs => ?_)
  · repeat first | refine W_seq ?_ | refine W_region (by rfl) ?_ | refine W_opsnil ?_ | refine W_pure TOk (by rfl) (by first | trivial | (simp only [okI, and_true, true_and, and_self] <;> omega) | omega) ?_ | refine W_off (by rfl) (by rfl) (by rfl) (by rfl) (by rfl) ?_ | refine W_cond_t (by rfl) ?_
    refine W_callV (by rfl) Try.call51 (by rfl) (fun w1 hw => Awake13_c w1) ?_
    repeat first | refine W_opsnil ?_ | refine W_pure TOk (by rfl) (by first | trivial | (simp only [okI, and_true, true_and, and_self] <;> omega) | omega) ?_
    exact W_retF (vs := [_]) ⟨rfl, trivial⟩ (Ent.nil _) ⟨rfl, rfl⟩
  · have hsm : small xss = true ∧ plainL xss = true := by simpa using hs
    have hsm2 : xss.length ≤ 300 ∧ runes xss ≤ 3000 := by simpa [small] using hsm.1
    have hru : runes xss = xss.length - 1 + tot xss := rfl
    repeat first | refine W_opsnil ?_ | refine W_pure TOk (by rfl) (by first | trivial | (simp only [okI, and_true, true_and, and_self] <;> omega) | omega) ?_ | refine W_on (by rfl) (by rfl) (by rfl) ?_
    refine W_cond_d (by rfl) (fun hz => ?_) (fun hz => ?_)
    · repeat first | refine W_seq ?_ | refine W_region (by rfl) ?_
      refine W_callV (by rfl) Try.call51 (by rfl) (fun w1 hw => Awake13_c w1) ?_
      repeat first | refine W_opsnil ?_ | refine W_pure TOk (by rfl) (by first | trivial | (simp only [okI, and_true, true_and, and_self] <;> omega) | omega) ?_
      exact W_retF (vs := [_]) ⟨rfl, trivial⟩ (Ent.nil _) ⟨rfl, rfl⟩
    · have hp1 := clipS_lt (xss := xss) (l := n0) (c := m0) (by omega)
      have hp2 := clipS_col xss n0 m0
      have hq1 := clipS_lt (xss := xss) (l := n1) (c := m1) (by omega)
      have hq2 := clipS_col xss n1 m1
      have hcp := fun (w1 : World) (hw : Below w.heap.size w w1) => RClip_c w1 A0 c0 xss (hl.below hw) (by omega) n0 m0
      have hcq := fun (w1 : World) (hw : Below w.heap.size w w1) => RClip_c w1 A0 c0 xss (hl.below hw) (by omega) n1 m1
      generalize clipS xss n0 m0 = p at *
      generalize clipS xss n1 m1 = q at *
      have hre := reg_clip hp1 hp2 hq1 hq2
      have hne : xss ≠ [] := by intro e; rw [e] at hp1; exact absurd hp1 (by simp)
      have hsp := splitL_joinL xss hne hsm.2
      have hxl := joinL_length xss
      have hll := lens_splitL (joinL xss)
      rw [hsp] at hll
      have hsiz : ∀ i, i < xss.length → siz (joinL xss) i = (rowN xss i).length := fun i hi => by
        have := row_siz (x := joinL xss) (i := i) (by omega)
        rw [hsp] at this
        exact this.symm
      repeat first | refine W_seq ?_ | refine W_skip ?_
      refine W_draw (fun w1 => St _ _ w1 _) [6, 7] [(0, 0), (1, 0), (3, 0), (4, 0), (2, 1), (5, 1), (6, 2), (7, 2)] (by kernel_rfl) (fun _ h => h) (by rfl) (by kernel_rfl) (fun hB => ?_)
      repeat first | refine D_pure TOk (by kernel_rfl) hB (by rfl) (by rfl) (by first | trivial | (simp only [okI, and_true, true_and, and_self] <;> omega) | omega) (fun hB => ?_) | refine D_load_boxN 0 TOk (by kernel_rfl) hB (by rfl) (by rfl) (by rfl) (by rfl) (by rfl) (by rfl) (fun _ h => h) (by rfl) (fun hB => ?_) | refine D_load_boxN 1 TOk (by kernel_rfl) hB (by rfl) (by rfl) (by rfl) (by rfl) (by rfl) (by rfl) (fun _ h => h) (by rfl) (fun hB => ?_)
      refine D_one hB (by rfl) (fun hB => ?_)
      refine W_callV (by rfl) Try.call57 (by rfl) (fun w1 hw => hcp w1 hw.below) ?_
      repeat first | refine W_opsnil ?_
      repeat first | refine D_shown (fun _ h => h) ?_
      refine D_one hB (by rfl) (fun hB => ?_)
      refine W_callV (by rfl) Try.call57 (by rfl) (fun w1 hw => hcq w1 hw.below) ?_
      repeat first | refine W_opsnil ?_
      repeat first | refine D_shown (fun _ h => h) ?_
      refine D_last hB (by rfl) (fun hB => ?_)
      repeat first | refine W_opsnil ?_ | (refine W_store_box 1 TOk (by rfl) (by rfl) (by rfl) (by rfl) (by rfl) (by rfl) ?_; dsimp only [setL, putL, vcells])
      refine D_last hB (by rfl) (fun hB => ?_)
      repeat first | refine W_opsnil ?_ | (refine W_store_box 0 TOk (by rfl) (by rfl) (by rfl) (by rfl) (by rfl) (by rfl) ?_; dsimp only [setL, putL, vcells])
      repeat first | refine D_done hB ?_
      repeat first | refine W_seq ?_ | refine W_region (by rfl) ?_ | refine W_pure TOk (by rfl) (by first | trivial | (simp only [okI, and_true, true_and, and_self] <;> omega) | omega) ?_ | refine W_load_boxN 0 TOk (by rfl) (by rfl) (by rfl) (by rfl) (by rfl) ?_ | refine W_load_boxN 1 TOk (by rfl) (by rfl) (by rfl) (by rfl) (by rfl) ?_
      refine W_alloc (cs := [_, _, _, _, _]) TOk (by rfl) (by rfl) (fun b7 => ?_)
      repeat first | refine W_seq ?_ | refine W_region (by rfl) ?_ | refine W_opsnil ?_ | refine W_pure TOk (by rfl) (by first | trivial | (simp only [okI, and_true, true_and, and_self] <;> omega) | omega) ?_ | refine W_load_boxN 0 TOk (by rfl) (by rfl) (by rfl) (by rfl) (by rfl) ?_ | (refine W_store_box 0 TOk (by rfl) (by rfl) (by rfl) (by rfl) (by rfl) (by rfl) ?_; dsimp only [setL, putL, vcells])
      refine W_call _ (by rfl) Try.call47 (by rfl) (fun w1 hw => Take_c w1 A0 c0 xss (hl.below hw.below) (by omega) (p.1 : Nat) (p.2 : Nat) (q.1 : Nat) (q.2 : Nat) 0) ?_
      rintro _ _ (⟨h, _⟩ | ⟨_, A6, c6, vs6, rfl, hv6, rfl⟩)
      · exact absurd hre h
      dsimp only [List.cons_append, List.nil_append]
      repeat first | refine W_pure TOk (by rfl) (by first | trivial | (simp only [okI, and_true, true_and, and_self] <;> omega) | omega) ?_
      refine W_alloc (cs := [_, _]) TOk (by rfl) (by rfl) (fun b8 => ?_)
      repeat first | refine W_seq ?_ | refine W_region (by rfl) ?_ | refine W_opsnil ?_ | refine W_pure TOk (by rfl) (by first | trivial | (simp only [okI, and_true, true_and, and_self] <;> omega) | omega) ?_ | refine W_load_boxN 3 TOk (by rfl) (by rfl) (by rfl) (by rfl) (by rfl) ?_ | (refine W_store_box 0 TOk (by rfl) (by rfl) (by rfl) (by rfl) (by rfl) (by rfl) ?_; dsimp only [setL, putL, vcells])
      refine W_call _ (by rfl) Try.call52 (by rfl) (fun w1 hw => Cut_c w1 A0 c0 xss (hl.below hw.below) hc (by omega) (p.1 : Nat) (p.2 : Nat) (q.1 : Nat) (q.2 : Nat) 0) ?_
      rintro _ _ (⟨h, _⟩ | ⟨_, A9, c9, vs9, rfl, hv9, rfl⟩)
      · exact absurd hre h
      obtain ⟨hcs1, hcs2⟩ := cut_small (regOk hre).1
      have htl := take_small hre
      dsimp only [List.cons_append, List.nil_append]
      repeat first | refine W_pure TOk (by rfl) (by first | trivial | (simp only [okI, and_true, true_and, and_self] <;> omega) | omega) ?_
      refine W_alloc (cs := [_, _]) TOk (by rfl) (by rfl) (fun b11 => ?_)
      repeat first | refine W_seq ?_ | refine W_skip ?_ | refine W_region (by rfl) ?_ | refine W_opsnil ?_ | refine W_pure TOk (by rfl) (by first | trivial | (simp only [okI, and_true, true_and, and_self] <;> omega) | omega) ?_ | refine W_on (by rfl) (by rfl) (by rfl) ?_ | refine W_cond_f (by rfl) ?_ | refine W_load_boxN 7 TOk (by rfl) (by rfl) (by rfl) (by rfl) (by rfl) ?_ | refine W_load_boxN 8 TOk (by rfl) (by rfl) (by rfl) (by rfl) (by rfl) ?_ | (refine W_store_box 0 TOk (by rfl) (by rfl) (by rfl) (by rfl) (by rfl) (by rfl) ?_; dsimp only [setL, putL, vcells])
      refine W_callV (by rfl) Try.call58 (by rfl) (fun w1 hw => Ahead_c w1 (q.1 : Nat) (q.2 : Nat) (p.1 : Nat) (p.2 : Nat)) ?_
      repeat first | refine W_opsnil ?_
      refine W_dec 59 (by rfl) (fun hs2 => ?_) (fun hs2 => ?_)
      · have hsw : swp (p.1 : Nat) (p.2 : Nat) (q.1 : Nat) (q.2 : Nat) := by unfold swp; unfold aheadS at hs2; simpa using hs2
        have hsw2 := hsw
        unfold swp at hsw2
        repeat first | refine W_seq ?_ | refine W_region (by rfl) ?_ | refine W_opsnil ?_ | refine W_pure TOk (by rfl) (by first | trivial | (simp only [okI, and_true, true_and, and_self] <;> omega) | omega) ?_ | refine W_cond_t (by rfl) ?_ | refine W_load_boxN 7 TOk (by rfl) (by rfl) (by rfl) (by rfl) (by rfl) ?_ | refine W_load_boxN 8 TOk (by rfl) (by rfl) (by rfl) (by rfl) (by rfl) ?_ | (refine W_store_box 7 TOk (by rfl) (by rfl) (by rfl) (by rfl) (by rfl) (by rfl) ?_; dsimp only [setL, putL, vcells]) | (refine W_store_box 8 TOk (by rfl) (by rfl) (by rfl) (by rfl) (by rfl) (by rfl) ?_; dsimp only [setL, putL, vcells])
        have hra : regA (p.1 : Nat) (p.2 : Nat) (q.1 : Nat) (q.2 : Nat) = q := by unfold regA; rw [if_pos (hsw)]; simp
        have hrb : regB (p.1 : Nat) (p.2 : Nat) (q.1 : Nat) (q.2 : Nat) = p := by unfold regB; rw [if_pos (hsw)]; simp
        have hfin := flat_in (L := xss) (a := q) (b := p) (by omega) (by omega) (by omega) (by omega)
        have hfcu := flat_cut (L := xss) (a := q) (b := p) (by omega) (by omega) (by omega) (by omega)
        have hoa := offS_at (x := joinL xss) (i := q.1) (c := q.2) (by omega) (by rw [hsiz _ (by omega)]; omega)
        have hob := offS_at (x := joinL xss) (i := p.1) (c := p.2) (by omega) (by rw [hsiz _ (by omega)]; omega)
        rw [beg_pre xss q.1 (by omega) hsm.2] at hoa
        rw [beg_pre xss p.1 (by omega) hsm.2] at hob
        have hT : takeS xss (p.1 : Nat) (p.2 : Nat) (q.1 : Nat) (q.2 : Nat) 0 = gathS cutIn xss 0 q p (p.1 + 1 - q.1) := by unfold takeS rgN; rw [hra, hrb]
        rw [hT] at hv6 htl ⊢
        rw [hra, hrb] at hv9 hcs1 hcs2 ⊢
        generalize gathS cutIn xss 0 q p (p.1 + 1 - q.1) = TT at *
        generalize cutS xss 0 q p = CC at *
        clear hT hra hrb
        obtain ⟨B, cB, hcB, hB_, hvs⟩ := hl.row (i := (((p.1 : Nat) : Int))) (by omega) (by omega)
        rw [rowN_rw] at hvs hB_ hcB
        have hja := congrArg List.length (joinL_at (L := xss) (i := q.1) (by omega))
        have hjb := congrArg List.length (joinL_at (L := xss) (i := p.1) (by omega))
        rw [List.length_append, List.length_append] at hja hjb
        have hord : (preJ (xss.take q.1)).length + q.2 ≤ (preJ (xss.take p.1)).length + endT xss p := pre_ord (by omega) (by omega) (by omega) (by omega)
        refine W_alloc (cs := [_]) TOk (by rfl) (by rfl) (fun b13 => ?_)
        repeat first | refine W_seq ?_ | refine W_region (by rfl) ?_ | refine W_opsnil ?_ | refine W_load_boxN 9 TOk (by rfl) (by rfl) (by rfl) (by rfl) (by rfl) ?_ | (refine W_store_box 0 TOk (by rfl) (by rfl) (by rfl) (by rfl) (by rfl) (by rfl) ?_; dsimp only [setL, putL, vcells])
        refine W_callV (by rfl) Try.call59 (by rfl) (fun w1 hw => RefOffset_c w1 b13 (joinL xss) (q.1 : Nat) (q.2 : Nat) (by rw [hsp]; exact refAtA 0 hw.hp rfl (hl.below hw.below) hc) (by omega)) ?_
        rw [hoa]
        repeat first | refine W_seq ?_ | refine W_region (by rfl) ?_ | refine W_opsnil ?_ | refine W_pure TOk (by rfl) (by first | trivial | (simp only [okI, and_true, true_and, and_self] <;> omega) | omega) ?_ | refine W_load_boxN 8 TOk (by rfl) (by rfl) (by rfl) (by rfl) (by rfl) ?_
        refine W_callV (by rfl) Try.call59 (by rfl) (fun w1 hw => RefOffset_c w1 b13 (joinL xss) (p.1 : Nat) (p.2 : Nat) (by rw [hsp]; exact refAtA 0 hw.hp rfl (hl.below hw.below) hc) (by omega)) ?_
        rw [hob]
        repeat first | refine W_seq ?_ | refine W_region (by rfl) ?_ | refine W_opsnil ?_ | refine W_pure TOk (by rfl) (by first | trivial | (simp only [okI, and_true, true_and, and_self] <;> omega) | omega) ?_ | refine W_load_box 8 TOk (by rfl) (by rfl) (by rfl) (by rfl) (by rfl) ?_
        refine W_index TOk (by rfl) (by rfl) (by rfl) (by first | exact es48 | exact es22 | exact es136 | exact es150 | exact es223 | exact es29 | exact es132 | exact es207) (by omega) (by omega) (fun w1 hw => (hl.below hw.below).isSome (by omega)) ?_
        refine W_load TOk (by rfl) (by rfl) (by rfl) (fun w1 hw => cells_elem1 hvs hw.below) ?_
        repeat first | refine W_opsnil ?_ | refine W_pure TOk (by rfl) (by first | trivial | (simp only [okI, and_true, true_and, and_self] <;> omega) | omega) ?_
        refine W_cond_d (by rfl) (fun hpos => ?_) (fun hpos => ?_)
        · have hE : endT xss p = p.2 + 1 := by unfold endT; omega
          repeat first | refine W_seq ?_ | refine W_region (by rfl) ?_ | refine W_opsnil ?_ | refine W_pure TOk (by rfl) (by first | trivial | (simp only [okI, and_true, true_and, and_self] <;> omega) | omega) ?_
          rw [show ((((preJ (xss.take p.1)).length + p.2 : Nat) : Int) + 1) = (((preJ (xss.take p.1)).length + endT xss p : Nat) : Int) by omega]
          have hTl : (preJ (xss.take p.1)).length + endT xss p ≤ (joinL xss).length := by unfold endT; omega
          generalize (preJ (xss.take p.1)).length + endT xss p = T at *
          generalize (preJ (xss.take q.1)).length + q.2 = F at *
          refine W_call _ (by rfl) Try.call60 (by rfl) (fun w1 hw => Joined_c w1 A0 c0 xss (hl.below hw.below) (by omega)) ?_; rintro _ _ ⟨A18, c18, rfl, rfl⟩; dsimp only [List.cons_append, List.nil_append]
          refine W_ownlen 0 (by rfl) (fun _ hq18 _ => ?_)
          generalize joinL xss = x at *
          have hX : (x.take F).length = F := by rw [List.length_take]; omega
          have hY : ((x.drop F).take (T - F)).length = T - F := by rw [List.length_take, List.length_drop]; omega
          have hZ : (x.drop T).length = x.length - T := List.length_drop ..
          have hW : (x.take F ++ x.drop T).length = F + (x.length - T) := by rw [List.length_append, hX, hZ]
          have hr1 : ∀ (w1 : World) (A21 : Option Addr) (c21 : Nat) (h : Cells w1 A21 (i32s (joinL TT))) (h2 : Cells w1 A18 (i32s x)), Val Try.prog 61 [.slice A21 (joinL TT).length c21, .slice (cutA A18 F c18 1) (T - F) (c18 - F)] w1 (.bool true) := fun w1 A21 c21 h h2 => by
            have h3 := Runes_c w1 A21 (cutA A18 F c18 1) c21 (c18 - F) (joinL TT) ((x.drop F).take (T - F)) h (h2.cut32 F T c18 (by omega)) (by rw [hfin, hY]; omega) (by rw [hY]; omega)
            rw [decide_eq_true hfin, hY] at h3
            exact h3
          have hr2 : ∀ (w1 : World) (A22 : Option Addr) (c22 : Nat) (A20 : Option Addr) (c20 : Nat) (h : Cells w1 A22 (i32s (joinL CC.1))) (h2 : Cells w1 A20 (i32s (x.take F ++ x.drop T))), Val Try.prog 61 [.slice A22 (joinL CC.1).length c22, .slice A20 (F + (x.length - T)) c20] w1 (.bool true) := fun w1 A22 c22 A20 c20 h h2 => by
            have h3 := Runes_c w1 A22 A20 c22 c20 (joinL CC.1) (x.take F ++ x.drop T) h h2 (by rw [hfcu, hW]; omega) (by rw [hW]; omega)
            rw [decide_eq_true hfcu, hW] at h3
            exact h3
          repeat first | refine W_seq ?_ | refine W_opsnil ?_ | refine W_pure TOk (by rfl) (by first | trivial | (simp only [okI, and_true, true_and, and_self] <;> omega) | omega) ?_
          refine W_draw (fun w1 => St _ _ w1 _) [] [(1, 0), (2, 0), (3, 0), (5, 0), (6, 0), (7, 0), (0, 1), (4, 1), (8, 1), (9, 0)] (by kernel_rfl) (fun _ h => h) (by rfl) (by kernel_rfl) (fun hB => ?_)
          repeat first | refine D_pure TOk (by kernel_rfl) hB (by rfl) (by rfl) (by first | trivial | (simp only [okI, and_true, true_and, and_self] <;> omega) | omega) (fun hB => ?_)
          refine D_one hB (by rfl) (fun hB => ?_)
          refine W_lit0 TOk (by rfl) (by first | exact sl48 | exact sl22 | exact sl136 | exact sl150 | exact sl223 | exact sl29 | exact sl132 | exact sl207) (fun g => ?_)
          repeat first | refine W_opsnil ?_
          repeat first | refine D_shown (fun _ h => h) ?_
          refine D_one hB (by rfl) (fun hB => ?_)
          simp only [Int.toNat_natCast, Int.toNat_zero, Nat.sub_zero, show Try.t21.size = 1 from rfl]
          refine W_append_zero TOk (by rfl) (by rfl) (by rfl) sl48 (fun w1 hw => cells_to (hw.hp.cells 0 rfl) F c18 (by omega)) (by rw [i32s_length, hX, Nat.mul_one]) (by unfold maxLen; omega) (by omega) (fun A19 c19 => ?_)
          repeat first | refine W_opsnil ?_
          repeat first | refine D_shown (fun _ h => h.ent (Ent.drop1 _ _)) ?_
          refine D_one hB (by rfl) (fun hB => ?_)
          refine W_append_own 0 TOk (by rfl) (by rfl) (by rfl) sl48 (by rfl) (fun w1 hw => cells_from (hw.hp.cells 1 rfl) T c18 hq18) (by rw [i32s_length, hZ, Nat.mul_one]) (by first | exact i32s_one _ | exact i64s_one _ | exact one_of _ rfl) (by unfold maxLen; omega) (by omega) (fun A20 c20 => ?_); dsimp only [setL]
          repeat first | refine W_opsnil ?_
          repeat first | refine D_pure TOk (by kernel_rfl) hB (by rfl) (by rfl) (by first | trivial | (simp only [okI, and_true, true_and, and_self] <;> omega) | omega) (fun hB => ?_) | refine D_done hB ?_ | refine D_shown (fun _ h => h.ent (Ent.drop1 _ _)) ?_
          repeat first | refine W_seq ?_
          refine W_ent (Ent.own_cast hW.symm (show i32s (x.take F) ++ i32s (x.drop T) = i32s (x.take F ++ x.drop T) by simp [i32s]) _) ?_
          refine W_draw (fun w1 => St _ _ w1 _) [] [(0, 0), (1, 0), (3, 0), (4, 0), (5, 0), (6, 0), (2, 1), (7, 1), (8, 0), (9, 0), (11, 0), (10, 1), (12, 1), (13, 0), (14, 0), (15, 1), (16, 0), (17, 0)] (by kernel_rfl) (fun _ h => h) (by rfl) (by kernel_rfl) (fun hB => ?_)
          repeat first | refine D_pure1 TOk (by kernel_rfl) hB (by rfl) (by rfl) (by rfl) (by rfl) (by first | trivial | (simp only [okI, and_true, true_and, and_self] <;> omega) | omega) (fun hB => ?_) | refine D_load_box 6 TOk (by kernel_rfl) hB (by rfl) (by rfl) (by rfl) (by rfl) (by rfl) (fun _ h => h) (by rfl) (by rfl) (fun hB => ?_)
          refine D_one hB (by rfl) (fun hB => ?_)
          refine W_call _ (by rfl) Try.call60 (by rfl) (fun w1 hw => Joined_c w1 A6 c6 TT (rows_of hw.hp 7 8 rfl rfl hv6) (by omega)) ?_; rintro _ _ ⟨A21, c21, rfl, rfl⟩; dsimp only [List.cons_append, List.nil_append]
          repeat first | refine W_opsnil ?_
          repeat first | refine D_shown (fun _ h => h.ent (Ent.drop1 _ _)) ?_
          refine D_one hB (by rfl) (fun hB => ?_)
          simp only [Int.toNat_natCast, Int.toNat_zero, Nat.sub_zero, show Try.t21.size = 1 from rfl]
          refine W_callV (by rfl) Try.call61 (by rfl) (fun w1 hw => hr1 w1 A21 c21 (hw.hp.cells 0 rfl) (hw.hp.cells 2 rfl)) ?_
          repeat first | refine W_opsnil ?_
          repeat first | refine D_pure1 TOk (by kernel_rfl) hB (by rfl) (by rfl) (by rfl) (by rfl) (by first | trivial | (simp only [okI, and_true, true_and, and_self] <;> omega) | omega) (fun hB => ?_) | refine D_shown (fun _ h => h.ent (Ent.drop1 _ _)) ?_
          refine D_one hB (by rfl) (fun hB => ?_)
          repeat first | refine W_on (by rfl) (by rfl) (by rfl) ?_
          refine W_call _ (by rfl) Try.call60 (by rfl) (fun w1 hw => Joined_c w1 A9 c9 CC.1 (rows_of hw.hp 5 6 rfl rfl hv9) (by omega)) ?_; rintro _ _ ⟨A22, c22, rfl, rfl⟩; dsimp only [List.cons_append, List.nil_append]
          repeat first | refine W_opsnil ?_
          repeat first | refine D_shown (fun _ h => h.ent (Ent.drop2 _ _ _)) ?_
          refine D_one hB (by rfl) (fun hB => ?_)
          repeat first | refine W_on (by rfl) (by rfl) (by rfl) ?_
          refine W_callV (by rfl) Try.call61 (by rfl) (fun w1 hw => hr2 w1 A22 c22 A20 c20 (hw.hp.cells 0 rfl) (hw.hp.cells 2 rfl)) ?_
          repeat first | refine W_opsnil ?_
          repeat first | refine D_pure1 TOk (by kernel_rfl) hB (by rfl) (by rfl) (by rfl) (by rfl) (by first | trivial | (simp only [okI, and_true, true_and, and_self] <;> omega) | omega) (fun hB => ?_) | refine D_shown (fun _ h => h.ent (Ent.drop2 _ _ _)) ?_
          refine D_one hB (by rfl) (fun hB => ?_)
          repeat first | refine W_on (by rfl) (by rfl) (by rfl) ?_
          refine W_callV (by rfl) Try.call51 (by rfl) (fun w1 hw => Awake13_c w1) ?_
          repeat first | refine W_opsnil ?_
          repeat first | refine D_pure1 TOk (by kernel_rfl) hB (by rfl) (by rfl) (by rfl) (by rfl) (by first | trivial | (simp only [okI, and_true, true_and, and_self] <;> omega) | omega) (fun hB => ?_) | refine D_done hB ?_ | refine D_shown (fun _ h => h.ent (Ent.drop2 _ _ _)) ?_
          exact W_retF (vs := [_]) ⟨rfl, trivial⟩ (Ent.nil _) ⟨rfl, rfl⟩
        · have hE : endT xss p = p.2 := by unfold endT; omega
          repeat first | refine W_seq ?_ | refine W_skip ?_ | refine W_region (by rfl) ?_ | refine W_pure TOk (by rfl) (by first | trivial | (simp only [okI, and_true, true_and, and_self] <;> omega) | omega) ?_
          rw [show ((((preJ (xss.take p.1)).length + p.2 : Nat) : Int)) = (((preJ (xss.take p.1)).length + endT xss p : Nat) : Int) by omega]
          have hTl : (preJ (xss.take p.1)).length + endT xss p ≤ (joinL xss).length := by unfold endT; omega
          generalize (preJ (xss.take p.1)).length + endT xss p = T at *
          generalize (preJ (xss.take q.1)).length + q.2 = F at *
          refine W_call _ (by rfl) Try.call60 (by rfl) (fun w1 hw => Joined_c w1 A0 c0 xss (hl.below hw.below) (by omega)) ?_; rintro _ _ ⟨A18, c18, rfl, rfl⟩; dsimp only [List.cons_append, List.nil_append]
          refine W_ownlen 0 (by rfl) (fun _ hq18 _ => ?_)
          generalize joinL xss = x at *
          have hX : (x.take F).length = F := by rw [List.length_take]; omega
          have hY : ((x.drop F).take (T - F)).length = T - F := by rw [List.length_take, List.length_drop]; omega
          have hZ : (x.drop T).length = x.length - T := List.length_drop ..
          have hW : (x.take F ++ x.drop T).length = F + (x.length - T) := by rw [List.length_append, hX, hZ]
          have hr1 : ∀ (w1 : World) (A21 : Option Addr) (c21 : Nat) (h : Cells w1 A21 (i32s (joinL TT))) (h2 : Cells w1 A18 (i32s x)), Val Try.prog 61 [.slice A21 (joinL TT).length c21, .slice (cutA A18 F c18 1) (T - F) (c18 - F)] w1 (.bool true) := fun w1 A21 c21 h h2 => by
            have h3 := Runes_c w1 A21 (cutA A18 F c18 1) c21 (c18 - F) (joinL TT) ((x.drop F).take (T - F)) h (h2.cut32 F T c18 (by omega)) (by rw [hfin, hY]; omega) (by rw [hY]; omega)
            rw [decide_eq_true hfin, hY] at h3
            exact h3
          have hr2 : ∀ (w1 : World) (A22 : Option Addr) (c22 : Nat) (A20 : Option Addr) (c20 : Nat) (h : Cells w1 A22 (i32s (joinL CC.1))) (h2 : Cells w1 A20 (i32s (x.take F ++ x.drop T))), Val Try.prog 61 [.slice A22 (joinL CC.1).length c22, .slice A20 (F + (x.length - T)) c20] w1 (.bool true) := fun w1 A22 c22 A20 c20 h h2 => by
            have h3 := Runes_c w1 A22 A20 c22 c20 (joinL CC.1) (x.take F ++ x.drop T) h h2 (by rw [hfcu, hW]; omega) (by rw [hW]; omega)
            rw [decide_eq_true hfcu, hW] at h3
            exact h3
          repeat first | refine W_seq ?_ | refine W_opsnil ?_ | refine W_pure TOk (by rfl) (by first | trivial | (simp only [okI, and_true, true_and, and_self] <;> omega) | omega) ?_
          refine W_draw (fun w1 => St _ _ w1 _) [] [(1, 0), (2, 0), (3, 0), (5, 0), (6, 0), (7, 0), (0, 1), (4, 1), (8, 1), (9, 0)] (by kernel_rfl) (fun _ h => h) (by rfl) (by kernel_rfl) (fun hB => ?_)
          repeat first | refine D_pure TOk (by kernel_rfl) hB (by rfl) (by rfl) (by first | trivial | (simp only [okI, and_true, true_and, and_self] <;> omega) | omega) (fun hB => ?_)
          refine D_one hB (by rfl) (fun hB => ?_)
          refine W_lit0 TOk (by rfl) (by first | exact sl48 | exact sl22 | exact sl136 | exact sl150 | exact sl223 | exact sl29 | exact sl132 | exact sl207) (fun g => ?_)
          repeat first | refine W_opsnil ?_
          repeat first | refine D_shown (fun _ h => h) ?_
          refine D_one hB (by rfl) (fun hB => ?_)
          simp only [Int.toNat_natCast, Int.toNat_zero, Nat.sub_zero, show Try.t21.size = 1 from rfl]
          refine W_append_zero TOk (by rfl) (by rfl) (by rfl) sl48 (fun w1 hw => cells_to (hw.hp.cells 0 rfl) F c18 (by omega)) (by rw [i32s_length, hX, Nat.mul_one]) (by unfold maxLen; omega) (by omega) (fun A19 c19 => ?_)
          repeat first | refine W_opsnil ?_
          repeat first | refine D_shown (fun _ h => h.ent (Ent.drop1 _ _)) ?_
          refine D_one hB (by rfl) (fun hB => ?_)
          refine W_append_own 0 TOk (by rfl) (by rfl) (by rfl) sl48 (by rfl) (fun w1 hw => cells_from (hw.hp.cells 1 rfl) T c18 hq18) (by rw [i32s_length, hZ, Nat.mul_one]) (by first | exact i32s_one _ | exact i64s_one _ | exact one_of _ rfl) (by unfold maxLen; omega) (by omega) (fun A20 c20 => ?_); dsimp only [setL]
          repeat first | refine W_opsnil ?_
          repeat first | refine D_pure TOk (by kernel_rfl) hB (by rfl) (by rfl) (by first | trivial | (simp only [okI, and_true, true_and, and_self] <;> omega) | omega) (fun hB => ?_) | refine D_done hB ?_ | refine D_shown (fun _ h => h.ent (Ent.drop1 _ _)) ?_
          repeat first | refine W_seq ?_
          refine W_ent (Ent.own_cast hW.symm (show i32s (x.take F) ++ i32s (x.drop T) = i32s (x.take F ++ x.drop T) by simp [i32s]) _) ?_
          refine W_draw (fun w1 => St _ _ w1 _) [] [(0, 0), (1, 0), (3, 0), (4, 0), (5, 0), (6, 0), (2, 1), (7, 1), (8, 0), (9, 0), (11, 0), (10, 1), (12, 1), (13, 0), (14, 0), (15, 1), (16, 0), (17, 0)] (by kernel_rfl) (fun _ h => h) (by rfl) (by kernel_rfl) (fun hB => ?_)
          repeat first | refine D_pure1 TOk (by kernel_rfl) hB (by rfl) (by rfl) (by rfl) (by rfl) (by first | trivial | (simp only [okI, and_true, true_and, and_self] <;> omega) | omega) (fun hB => ?_) | refine D_load_box 6 TOk (by kernel_rfl) hB (by rfl) (by rfl) (by rfl) (by rfl) (by rfl) (fun _ h => h) (by rfl) (by rfl) (fun hB => ?_)
          refine D_one hB (by rfl) (fun hB => ?_)
          refine W_call _ (by rfl) Try.call60 (by rfl) (fun w1 hw => Joined_c w1 A6 c6 TT (rows_of hw.hp 7 8 rfl rfl hv6) (by omega)) ?_; rintro _ _ ⟨A21, c21, rfl, rfl⟩; dsimp only [List.cons_append, List.nil_append]
          repeat first | refine W_opsnil ?_
          repeat first | refine D_shown (fun _ h => h.ent (Ent.drop1 _ _)) ?_
          refine D_one hB (by rfl) (fun hB => ?_)
          simp only [Int.toNat_natCast, Int.toNat_zero, Nat.sub_zero, show Try.t21.size = 1 from rfl]
          refine W_callV (by rfl) Try.call61 (by rfl) (fun w1 hw => hr1 w1 A21 c21 (hw.hp.cells 0 rfl) (hw.hp.cells 2 rfl)) ?_
          repeat first | refine W_opsnil ?_
          repeat first | refine D_pure1 TOk (by kernel_rfl) hB (by rfl) (by rfl) (by rfl) (by rfl) (by first | trivial | (simp only [okI, and_true, true_and, and_self] <;> omega) | omega) (fun hB => ?_) | refine D_shown (fun _ h => h.ent (Ent.drop1 _ _)) ?_
          refine D_one hB (by rfl) (fun hB => ?_)
          repeat first | refine W_on (by rfl) (by rfl) (by rfl) ?_
          refine W_call _ (by rfl) Try.call60 (by rfl) (fun w1 hw => Joined_c w1 A9 c9 CC.1 (rows_of hw.hp 5 6 rfl rfl hv9) (by omega)) ?_; rintro _ _ ⟨A22, c22, rfl, rfl⟩; dsimp only [List.cons_append, List.nil_append]
          repeat first | refine W_opsnil ?_
          repeat first | refine D_shown (fun _ h => h.ent (Ent.drop2 _ _ _)) ?_
          refine D_one hB (by rfl) (fun hB => ?_)
          repeat first | refine W_on (by rfl) (by rfl) (by rfl) ?_
          refine W_callV (by rfl) Try.call61 (by rfl) (fun w1 hw => hr2 w1 A22 c22 A20 c20 (hw.hp.cells 0 rfl) (hw.hp.cells 2 rfl)) ?_
          repeat first | refine W_opsnil ?_
          repeat first | refine D_pure1 TOk (by kernel_rfl) hB (by rfl) (by rfl) (by rfl) (by rfl) (by first | trivial | (simp only [okI, and_true, true_and, and_self] <;> omega) | omega) (fun hB => ?_) | refine D_shown (fun _ h => h.ent (Ent.drop2 _ _ _)) ?_
          refine D_one hB (by rfl) (fun hB => ?_)
          repeat first | refine W_on (by rfl) (by rfl) (by rfl) ?_
          refine W_callV (by rfl) Try.call51 (by rfl) (fun w1 hw => Awake13_c w1) ?_
          repeat first | refine W_opsnil ?_
          repeat first | refine D_pure1 TOk (by kernel_rfl) hB (by rfl) (by rfl) (by rfl) (by rfl) (by first | trivial | (simp only [okI, and_true, true_and, and_self] <;> omega) | omega) (fun hB => ?_) | refine D_done hB ?_ | refine D_shown (fun _ h => h.ent (Ent.drop2 _ _ _)) ?_
          exact W_retF (vs := [_]) ⟨rfl, trivial⟩ (Ent.nil _) ⟨rfl, rfl⟩
      · have hsw : ¬ swp (p.1 : Nat) (p.2 : Nat) (q.1 : Nat) (q.2 : Nat) := by unfold swp; unfold aheadS at hs2; simpa using hs2
        have hsw2 := hsw
        unfold swp at hsw2
        repeat first | refine W_seq ?_ | refine W_skip ?_ | refine W_region (by rfl) ?_ | refine W_pure TOk (by rfl) (by first | trivial | (simp only [okI, and_true, true_and, and_self] <;> omega) | omega) ?_ | refine W_cond_f (by rfl) ?_
        have hra : regA (p.1 : Nat) (p.2 : Nat) (q.1 : Nat) (q.2 : Nat) = p := by unfold regA; rw [if_neg (hsw)]; simp
        have hrb : regB (p.1 : Nat) (p.2 : Nat) (q.1 : Nat) (q.2 : Nat) = q := by unfold regB; rw [if_neg (hsw)]; simp
        have hfin := flat_in (L := xss) (a := p) (b := q) (by omega) (by omega) (by omega) (by omega)
        have hfcu := flat_cut (L := xss) (a := p) (b := q) (by omega) (by omega) (by omega) (by omega)
        have hoa := offS_at (x := joinL xss) (i := p.1) (c := p.2) (by omega) (by rw [hsiz _ (by omega)]; omega)
        have hob := offS_at (x := joinL xss) (i := q.1) (c := q.2) (by omega) (by rw [hsiz _ (by omega)]; omega)
        rw [beg_pre xss p.1 (by omega) hsm.2] at hoa
        rw [beg_pre xss q.1 (by omega) hsm.2] at hob
        have hT : takeS xss (p.1 : Nat) (p.2 : Nat) (q.1 : Nat) (q.2 : Nat) 0 = gathS cutIn xss 0 p q (q.1 + 1 - p.1) := by unfold takeS rgN; rw [hra, hrb]
        rw [hT] at hv6 htl ⊢
        rw [hra, hrb] at hv9 hcs1 hcs2 ⊢
        generalize gathS cutIn xss 0 p q (q.1 + 1 - p.1) = TT at *
        generalize cutS xss 0 p q = CC at *
        clear hT hra hrb
        obtain ⟨B, cB, hcB, hB_, hvs⟩ := hl.row (i := (((q.1 : Nat) : Int))) (by omega) (by omega)
        rw [rowN_rw] at hvs hB_ hcB
        have hja := congrArg List.length (joinL_at (L := xss) (i := p.1) (by omega))
        have hjb := congrArg List.length (joinL_at (L := xss) (i := q.1) (by omega))
        rw [List.length_append, List.length_append] at hja hjb
        have hord : (preJ (xss.take p.1)).length + p.2 ≤ (preJ (xss.take q.1)).length + endT xss q := pre_ord (by omega) (by omega) (by omega) (by omega)
        refine W_alloc (cs := [_]) TOk (by rfl) (by rfl) (fun b13 => ?_)
        repeat first | refine W_seq ?_ | refine W_region (by rfl) ?_ | refine W_opsnil ?_ | refine W_load_boxN 9 TOk (by rfl) (by rfl) (by rfl) (by rfl) (by rfl) ?_ | (refine W_store_box 0 TOk (by rfl) (by rfl) (by rfl) (by rfl) (by rfl) (by rfl) ?_; dsimp only [setL, putL, vcells])
        refine W_callV (by rfl) Try.call59 (by rfl) (fun w1 hw => RefOffset_c w1 b13 (joinL xss) (p.1 : Nat) (p.2 : Nat) (by rw [hsp]; exact refAtA 0 hw.hp rfl (hl.below hw.below) hc) (by omega)) ?_
        rw [hoa]
        repeat first | refine W_seq ?_ | refine W_region (by rfl) ?_ | refine W_opsnil ?_ | refine W_pure TOk (by rfl) (by first | trivial | (simp only [okI, and_true, true_and, and_self] <;> omega) | omega) ?_ | refine W_load_boxN 8 TOk (by rfl) (by rfl) (by rfl) (by rfl) (by rfl) ?_
        refine W_callV (by rfl) Try.call59 (by rfl) (fun w1 hw => RefOffset_c w1 b13 (joinL xss) (q.1 : Nat) (q.2 : Nat) (by rw [hsp]; exact refAtA 0 hw.hp rfl (hl.below hw.below) hc) (by omega)) ?_
        rw [hob]
        repeat first | refine W_seq ?_ | refine W_region (by rfl) ?_ | refine W_opsnil ?_ | refine W_pure TOk (by rfl) (by first | trivial | (simp only [okI, and_true, true_and, and_self] <;> omega) | omega) ?_ | refine W_load_box 8 TOk (by rfl) (by rfl) (by rfl) (by rfl) (by rfl) ?_
        refine W_index TOk (by rfl) (by rfl) (by rfl) (by first | exact es48 | exact es22 | exact es136 | exact es150 | exact es223 | exact es29 | exact es132 | exact es207) (by omega) (by omega) (fun w1 hw => (hl.below hw.below).isSome (by omega)) ?_
        refine W_load TOk (by rfl) (by rfl) (by rfl) (fun w1 hw => cells_elem1 hvs hw.below) ?_
        repeat first | refine W_opsnil ?_ | refine W_pure TOk (by rfl) (by first | trivial | (simp only [okI, and_true, true_and, and_self] <;> omega) | omega) ?_
        refine W_cond_d (by rfl) (fun hpos => ?_) (fun hpos => ?_)
        · have hE : endT xss q = q.2 + 1 := by unfold endT; omega
          repeat first | refine W_seq ?_ | refine W_region (by rfl) ?_ | refine W_opsnil ?_ | refine W_pure TOk (by rfl) (by first | trivial | (simp only [okI, and_true, true_and, and_self] <;> omega) | omega) ?_
          rw [show ((((preJ (xss.take q.1)).length + q.2 : Nat) : Int) + 1) = (((preJ (xss.take q.1)).length + endT xss q : Nat) : Int) by omega]
          have hTl : (preJ (xss.take q.1)).length + endT xss q ≤ (joinL xss).length := by unfold endT; omega
          generalize (preJ (xss.take q.1)).length + endT xss q = T at *
          generalize (preJ (xss.take p.1)).length + p.2 = F at *
          refine W_call _ (by rfl) Try.call60 (by rfl) (fun w1 hw => Joined_c w1 A0 c0 xss (hl.below hw.below) (by omega)) ?_; rintro _ _ ⟨A18, c18, rfl, rfl⟩; dsimp only [List.cons_append, List.nil_append]
          refine W_ownlen 0 (by rfl) (fun _ hq18 _ => ?_)
          generalize joinL xss = x at *
          have hX : (x.take F).length = F := by rw [List.length_take]; omega
          have hY : ((x.drop F).take (T - F)).length = T - F := by rw [List.length_take, List.length_drop]; omega
          have hZ : (x.drop T).length = x.length - T := List.length_drop ..
          have hW : (x.take F ++ x.drop T).length = F + (x.length - T) := by rw [List.length_append, hX, hZ]
          have hr1 : ∀ (w1 : World) (A21 : Option Addr) (c21 : Nat) (h : Cells w1 A21 (i32s (joinL TT))) (h2 : Cells w1 A18 (i32s x)), Val Try.prog 61 [.slice A21 (joinL TT).length c21, .slice (cutA A18 F c18 1) (T - F) (c18 - F)] w1 (.bool true) := fun w1 A21 c21 h h2 => by
            have h3 := Runes_c w1 A21 (cutA A18 F c18 1) c21 (c18 - F) (joinL TT) ((x.drop F).take (T - F)) h (h2.cut32 F T c18 (by omega)) (by rw [hfin, hY]; omega) (by rw [hY]; omega)
            rw [decide_eq_true hfin, hY] at h3
            exact h3
          have hr2 : ∀ (w1 : World) (A22 : Option Addr) (c22 : Nat) (A20 : Option Addr) (c20 : Nat) (h : Cells w1 A22 (i32s (joinL CC.1))) (h2 : Cells w1 A20 (i32s (x.take F ++ x.drop T))), Val Try.prog 61 [.slice A22 (joinL CC.1).length c22, .slice A20 (F + (x.length - T)) c20] w1 (.bool true) := fun w1 A22 c22 A20 c20 h h2 => by
            have h3 := Runes_c w1 A22 A20 c22 c20 (joinL CC.1) (x.take F ++ x.drop T) h h2 (by rw [hfcu, hW]; omega) (by rw [hW]; omega)
            rw [decide_eq_true hfcu, hW] at h3
            exact h3
          repeat first | refine W_seq ?_ | refine W_opsnil ?_ | refine W_pure TOk (by rfl) (by first | trivial | (simp only [okI, and_true, true_and, and_self] <;> omega) | omega) ?_
          refine W_draw (fun w1 => St _ _ w1 _) [] [(1, 0), (2, 0), (3, 0), (5, 0), (6, 0), (7, 0), (0, 1), (4, 1), (8, 1), (9, 0)] (by kernel_rfl) (fun _ h => h) (by rfl) (by kernel_rfl) (fun hB => ?_)
          repeat first | refine D_pure TOk (by kernel_rfl) hB (by rfl) (by rfl) (by first | trivial | (simp only [okI, and_true, true_and, and_self] <;> omega) | omega) (fun hB => ?_)
          refine D_one hB (by rfl) (fun hB => ?_)
          refine W_lit0 TOk (by rfl) (by first | exact sl48 | exact sl22 | exact sl136 | exact sl150 | exact sl223 | exact sl29 | exact sl132 | exact sl207) (fun g => ?_)
          repeat first | refine W_opsnil ?_
          repeat first | refine D_shown (fun _ h => h) ?_
          refine D_one hB (by rfl) (fun hB => ?_)
          simp only [Int.toNat_natCast, Int.toNat_zero, Nat.sub_zero, show Try.t21.size = 1 from rfl]
          refine W_append_zero TOk (by rfl) (by rfl) (by rfl) sl48 (fun w1 hw => cells_to (hw.hp.cells 0 rfl) F c18 (by omega)) (by rw [i32s_length, hX, Nat.mul_one]) (by unfold maxLen; omega) (by omega) (fun A19 c19 => ?_)
          repeat first | refine W_opsnil ?_
          repeat first | refine D_shown (fun _ h => h.ent (Ent.drop1 _ _)) ?_
          refine D_one hB (by rfl) (fun hB => ?_)
          refine W_append_own 0 TOk (by rfl) (by rfl) (by rfl) sl48 (by rfl) (fun w1 hw => cells_from (hw.hp.cells 1 rfl) T c18 hq18) (by rw [i32s_length, hZ, Nat.mul_one]) (by first | exact i32s_one _ | exact i64s_one _ | exact one_of _ rfl) (by unfold maxLen; omega) (by omega) (fun A20 c20 => ?_); dsimp only [setL]
          repeat first | refine W_opsnil ?_
          repeat first | refine D_pure TOk (by kernel_rfl) hB (by rfl) (by rfl) (by first | trivial | (simp only [okI, and_true, true_and, and_self] <;> omega) | omega) (fun hB => ?_) | refine D_done hB ?_ | refine D_shown (fun _ h => h.ent (Ent.drop1 _ _)) ?_
          repeat first | refine W_seq ?_
          refine W_ent (Ent.own_cast hW.symm (show i32s (x.take F) ++ i32s (x.drop T) = i32s (x.take F ++ x.drop T) by simp [i32s]) _) ?_
          refine W_draw (fun w1 => St _ _ w1 _) [] [(0, 0), (1, 0), (3, 0), (4, 0), (5, 0), (6, 0), (2, 1), (7, 1), (8, 0), (9, 0), (11, 0), (10, 1), (12, 1), (13, 0), (14, 0), (15, 1), (16, 0), (17, 0)] (by kernel_rfl) (fun _ h => h) (by rfl) (by kernel_rfl) (fun hB => ?_)
          repeat first | refine D_pure1 TOk (by kernel_rfl) hB (by rfl) (by rfl) (by rfl) (by rfl) (by first | trivial | (simp only [okI, and_true, true_and, and_self] <;> omega) | omega) (fun hB => ?_) | refine D_load_box 6 TOk (by kernel_rfl) hB (by rfl) (by rfl) (by rfl) (by rfl) (by rfl) (fun _ h => h) (by rfl) (by rfl) (fun hB => ?_)
          refine D_one hB (by rfl) (fun hB => ?_)
          refine W_call _ (by rfl) Try.call60 (by rfl) (fun w1 hw => Joined_c w1 A6 c6 TT (rows_of hw.hp 7 8 rfl rfl hv6) (by omega)) ?_; rintro _ _ ⟨A21, c21, rfl, rfl⟩; dsimp only [List.cons_append, List.nil_append]
          repeat first | refine W_opsnil ?_
          repeat first | refine D_shown (fun _ h => h.ent (Ent.drop1 _ _)) ?_
          refine D_one hB (by rfl) (fun hB => ?_)
          simp only [Int.toNat_natCast, Int.toNat_zero, Nat.sub_zero, show Try.t21.size = 1 from rfl]
          refine W_callV (by rfl) Try.call61 (by rfl) (fun w1 hw => hr1 w1 A21 c21 (hw.hp.cells 0 rfl) (hw.hp.cells 2 rfl)) ?_
          repeat first | refine W_opsnil ?_
          repeat first | refine D_pure1 TOk (by kernel_rfl) hB (by rfl) (by rfl) (by rfl) (by rfl) (by first | trivial | (simp only [okI, and_true, true_and, and_self] <;> omega) | omega) (fun hB => ?_) | refine D_shown (fun _ h => h.ent (Ent.drop1 _ _)) ?_
          refine D_one hB (by rfl) (fun hB => ?_)
          repeat first | refine W_on (by rfl) (by rfl) (by rfl) ?_
          refine W_call _ (by rfl) Try.call60 (by rfl) (fun w1 hw => Joined_c w1 A9 c9 CC.1 (rows_of hw.hp 5 6 rfl rfl hv9) (by omega)) ?_; rintro _ _ ⟨A22, c22, rfl, rfl⟩; dsimp only [List.cons_append, List.nil_append]
          repeat first | refine W_opsnil ?_
          repeat first | refine D_shown (fun _ h => h.ent (Ent.drop2 _ _ _)) ?_
          refine D_one hB (by rfl) (fun hB => ?_)
          repeat first | refine W_on (by rfl) (by rfl) (by rfl) ?_
          refine W_callV (by rfl) Try.call61 (by rfl) (fun w1 hw => hr2 w1 A22 c22 A20 c20 (hw.hp.cells 0 rfl) (hw.hp.cells 2 rfl)) ?_
          repeat first | refine W_opsnil ?_
          repeat first | refine D_pure1 TOk (by kernel_rfl) hB (by rfl) (by rfl) (by rfl) (by rfl) (by first | trivial | (simp only [okI, and_true, true_and, and_self] <;> omega) | omega) (fun hB => ?_) | refine D_shown (fun _ h => h.ent (Ent.drop2 _ _ _)) ?_
          refine D_one hB (by rfl) (fun hB => ?_)
          repeat first | refine W_on (by rfl) (by rfl) (by rfl) ?_
          refine W_callV (by rfl) Try.call51 (by rfl) (fun w1 hw => Awake13_c w1) ?_
          repeat first | refine W_opsnil ?_
          repeat first | refine D_pure1 TOk (by kernel_rfl) hB (by rfl) (by rfl) (by rfl) (by rfl) (by first | trivial | (simp only [okI, and_true, true_and, and_self] <;> omega) | omega) (fun hB => ?_) | refine D_done hB ?_ | refine D_shown (fun _ h => h.ent (Ent.drop2 _ _ _)) ?_
          exact W_retF (vs := [_]) ⟨rfl, trivial⟩ (Ent.nil _) ⟨rfl, rfl⟩
        · have hE : endT xss q = q.2 := by unfold endT; omega
          repeat first | refine W_seq ?_ | refine W_skip ?_ | refine W_region (by rfl) ?_ | refine W_pure TOk (by rfl) (by first | trivial | (simp only [okI, and_true, true_and, and_self] <;> omega) | omega) ?_
          rw [show ((((preJ (xss.take q.1)).length + q.2 : Nat) : Int)) = (((preJ (xss.take q.1)).length + endT xss q : Nat) : Int) by omega]
          have hTl : (preJ (xss.take q.1)).length + endT xss q ≤ (joinL xss).length := by unfold endT; omega
          generalize (preJ (xss.take q.1)).length + endT xss q = T at *
          generalize (preJ (xss.take p.1)).length + p.2 = F at *
          refine W_call _ (by rfl) Try.call60 (by rfl) (fun w1 hw => Joined_c w1 A0 c0 xss (hl.below hw.below) (by omega)) ?_; rintro _ _ ⟨A18, c18, rfl, rfl⟩; dsimp only [List.cons_append, List.nil_append]
          refine W_ownlen 0 (by rfl) (fun _ hq18 _ => ?_)
          generalize joinL xss = x at *
          have hX : (x.take F).length = F := by rw [List.length_take]; omega
          have hY : ((x.drop F).take (T - F)).length = T - F := by rw [List.length_take, List.length_drop]; omega
          have hZ : (x.drop T).length = x.length - T := List.length_drop ..
          have hW : (x.take F ++ x.drop T).length = F + (x.length - T) := by rw [List.length_append, hX, hZ]
          have hr1 : ∀ (w1 : World) (A21 : Option Addr) (c21 : Nat) (h : Cells w1 A21 (i32s (joinL TT))) (h2 : Cells w1 A18 (i32s x)), Val Try.prog 61 [.slice A21 (joinL TT).length c21, .slice (cutA A18 F c18 1) (T - F) (c18 - F)] w1 (.bool true) := fun w1 A21 c21 h h2 => by
            have h3 := Runes_c w1 A21 (cutA A18 F c18 1) c21 (c18 - F) (joinL TT) ((x.drop F).take (T - F)) h (h2.cut32 F T c18 (by omega)) (by rw [hfin, hY]; omega) (by rw [hY]; omega)
            rw [decide_eq_true hfin, hY] at h3
            exact h3
          have hr2 : ∀ (w1 : World) (A22 : Option Addr) (c22 : Nat) (A20 : Option Addr) (c20 : Nat) (h : Cells w1 A22 (i32s (joinL CC.1))) (h2 : Cells w1 A20 (i32s (x.take F ++ x.drop T))), Val Try.prog 61 [.slice A22 (joinL CC.1).length c22, .slice A20 (F + (x.length - T)) c20] w1 (.bool true) := fun w1 A22 c22 A20 c20 h h2 => by
            have h3 := Runes_c w1 A22 A20 c22 c20 (joinL CC.1) (x.take F ++ x.drop T) h h2 (by rw [hfcu, hW]; omega) (by rw [hW]; omega)
            rw [decide_eq_true hfcu, hW] at h3
            exact h3
          repeat first | refine W_seq ?_ | refine W_opsnil ?_ | refine W_pure TOk (by rfl) (by first | trivial | (simp only [okI, and_true, true_and, and_self] <;> omega) | omega) ?_
          refine W_draw (fun w1 => St _ _ w1 _) [] [(1, 0), (2, 0), (3, 0), (5, 0), (6, 0), (7, 0), (0, 1), (4, 1), (8, 1), (9, 0)] (by kernel_rfl) (fun _ h => h) (by rfl) (by kernel_rfl) (fun hB => ?_)
          repeat first | refine D_pure TOk (by kernel_rfl) hB (by rfl) (by rfl) (by first | trivial | (simp only [okI, and_true, true_and, and_self] <;> omega) | omega) (fun hB => ?_)
          refine D_one hB (by rfl) (fun hB => ?_)
          refine W_lit0 TOk (by rfl) (by first | exact sl48 | exact sl22 | exact sl136 | exact sl150 | exact sl223 | exact sl29 | exact sl132 | exact sl207) (fun g => ?_)
          repeat first | refine W_opsnil ?_
          repeat first | refine D_shown (fun _ h => h) ?_
          refine D_one hB (by rfl) (fun hB => ?_)
          simp only [Int.toNat_natCast, Int.toNat_zero, Nat.sub_zero, show Try.t21.size = 1 from rfl]
          refine W_append_zero TOk (by rfl) (by rfl) (by rfl) sl48 (fun w1 hw => cells_to (hw.hp.cells 0 rfl) F c18 (by omega)) (by rw [i32s_length, hX, Nat.mul_one]) (by unfold maxLen; omega) (by omega) (fun A19 c19 => ?_)
          repeat first | refine W_opsnil ?_
          repeat first | refine D_shown (fun _ h => h.ent (Ent.drop1 _ _)) ?_
          refine D_one hB (by rfl) (fun hB => ?_)
          refine W_append_own 0 TOk (by rfl) (by rfl) (by rfl) sl48 (by rfl) (fun w1 hw => cells_from (hw.hp.cells 1 rfl) T c18 hq18) (by rw [i32s_length, hZ, Nat.mul_one]) (by first | exact i32s_one _ | exact i64s_one _ | exact one_of _ rfl) (by unfold maxLen; omega) (by omega) (fun A20 c20 => ?_); dsimp only [setL]
          repeat first | refine W_opsnil ?_
          repeat first | refine D_pure TOk (by kernel_rfl) hB (by rfl) (by rfl) (by first | trivial | (simp only [okI, and_true, true_and, and_self] <;> omega) | omega) (fun hB => ?_) | refine D_done hB ?_ | refine D_shown (fun _ h => h.ent (Ent.drop1 _ _)) ?_
          repeat first | refine W_seq ?_
          refine W_ent (Ent.own_cast hW.symm (show i32s (x.take F) ++ i32s (x.drop T) = i32s (x.take F ++ x.drop T) by simp [i32s]) _) ?_
          refine W_draw (fun w1 => St _ _ w1 _) [] [(0, 0), (1, 0), (3, 0), (4, 0), (5, 0), (6, 0), (2, 1), (7, 1), (8, 0), (9, 0), (11, 0), (10, 1), (12, 1), (13, 0), (14, 0), (15, 1), (16, 0), (17, 0)] (by kernel_rfl) (fun _ h => h) (by rfl) (by kernel_rfl) (fun hB => ?_)
          repeat first | refine D_pure1 TOk (by kernel_rfl) hB (by rfl) (by rfl) (by rfl) (by rfl) (by first | trivial | (simp only [okI, and_true, true_and, and_self] <;> omega) | omega) (fun hB => ?_) | refine D_load_box 6 TOk (by kernel_rfl) hB (by rfl) (by rfl) (by rfl) (by rfl) (by rfl) (fun _ h => h) (by rfl) (by rfl) (fun hB => ?_)
          refine D_one hB (by rfl) (fun hB => ?_)
          refine W_call _ (by rfl) Try.call60 (by rfl) (fun w1 hw => Joined_c w1 A6 c6 TT (rows_of hw.hp 7 8 rfl rfl hv6) (by omega)) ?_; rintro _ _ ⟨A21, c21, rfl, rfl⟩; dsimp only [List.cons_append, List.nil_append]
          repeat first | refine W_opsnil ?_
          repeat first | refine D_shown (fun _ h => h.ent (Ent.drop1 _ _)) ?_
          refine D_one hB (by rfl) (fun hB => ?_)
          simp only [Int.toNat_natCast, Int.toNat_zero, Nat.sub_zero, show Try.t21.size = 1 from rfl]
          refine W_callV (by rfl) Try.call61 (by rfl) (fun w1 hw => hr1 w1 A21 c21 (hw.hp.cells 0 rfl) (hw.hp.cells 2 rfl)) ?_
          repeat first | refine W_opsnil ?_
          repeat first | refine D_pure1 TOk (by kernel_rfl) hB (by rfl) (by rfl) (by rfl) (by rfl) (by first | trivial | (simp only [okI, and_true, true_and, and_self] <;> omega) | omega) (fun hB => ?_) | refine D_shown (fun _ h => h.ent (Ent.drop1 _ _)) ?_
          refine D_one hB (by rfl) (fun hB => ?_)
          repeat first | refine W_on (by rfl) (by rfl) (by rfl) ?_
          refine W_call _ (by rfl) Try.call60 (by rfl) (fun w1 hw => Joined_c w1 A9 c9 CC.1 (rows_of hw.hp 5 6 rfl rfl hv9) (by omega)) ?_; rintro _ _ ⟨A22, c22, rfl, rfl⟩; dsimp only [List.cons_append, List.nil_append]
          repeat first | refine W_opsnil ?_
          repeat first | refine D_shown (fun _ h => h.ent (Ent.drop2 _ _ _)) ?_
          refine D_one hB (by rfl) (fun hB => ?_)
          repeat first | refine W_on (by rfl) (by rfl) (by rfl) ?_
          refine W_callV (by rfl) Try.call61 (by rfl) (fun w1 hw => hr2 w1 A22 c22 A20 c20 (hw.hp.cells 0 rfl) (hw.hp.cells 2 rfl)) ?_
          repeat first | refine W_opsnil ?_
          repeat first | refine D_pure1 TOk (by kernel_rfl) hB (by rfl) (by rfl) (by rfl) (by rfl) (by first | trivial | (simp only [okI, and_true, true_and, and_self] <;> omega) | omega) (fun hB => ?_) | refine D_shown (fun _ h => h.ent (Ent.drop2 _ _ _)) ?_
          refine D_one hB (by rfl) (fun hB => ?_)
          repeat first | refine W_on (by rfl) (by rfl) (by rfl) ?_
          refine W_callV (by rfl) Try.call51 (by rfl) (fun w1 hw => Awake13_c w1) ?_
          repeat first | refine W_opsnil ?_
          repeat first | refine D_pure1 TOk (by kernel_rfl) hB (by rfl) (by rfl) (by rfl) (by rfl) (by first | trivial | (simp only [okI, and_true, true_and, and_self] <;> omega) | omega) (fun hB => ?_) | refine D_done hB ?_ | refine D_shown (fun _ h => h.ent (Ent.drop2 _ _ _)) ?_
          exact W_retF (vs := [_]) ⟨rfl, trivial⟩ (Ent.nil _) ⟨rfl, rfl⟩
end Go.Proofs.Ytdfibmbedjpcgaa
