/- OperBack: what is cut out and put back. -/
import Derived.Test.YtdfibmbedjpcgaaO11
import Derived.Test.YtdfibmbedjpcgaaW1
set_option linter.unusedVariables false
set_option linter.unusedSimpArgs false
namespace Go.Proofs.Ytdfibmbedjpcgaa
open Go Go.RowKit Eng Ls
attribute [local irreducible] Eng.W

theorem gath_id {L : List (List Int)} (a b : Nat × Nat) {m : Nat} (h : a.1 + m ≤ L.length) : gathS cutIn L 1 a b m = (L.drop a.1).take m := by
  unfold gathS
  apply List.ext_getElem (by simp; omega)
  intro j h1 h2
  have hj : j < m := by simpa using h1
  have hr : L[a.1 + j]'(by omega) = rowN L (a.1 + j) := by
    have := rowN_get (xss := L) (i := a.1 + j) (by omega)
    rw [List.getElem?_eq_getElem (by omega)] at this
    exact Option.some.inj this
  have hT : colT 1 a b (rowN L (a.1 + j)).length (a.1 + j) = (rowN L (a.1 + j)).length := by
    unfold colT; rw [if_neg (by decide), if_neg (by omega)]; exact Nat.min_self _
  have hF : colF 1 a b (rowN L (a.1 + j)).length (a.1 + j) = 0 := by
    unfold colF; rw [if_neg (by decide), if_neg (by omega)]; exact Nat.min_zero _
  rw [List.getElem_map, List.getElem_range, hT, hF, List.getElem_take, List.getElem_drop, hr]
  unfold cutIn
  rw [List.drop_zero, Nat.sub_zero, List.take_length]
theorem clip_zero {L : List (List Int)} {a : Nat} (h : a < L.length) : clipS L (a : Nat) 0 = (a, 0) := by
  unfold clipS clp
  simp only [Int.toNat_natCast, Int.toNat_zero, Nat.zero_min, Prod.mk.injEq, and_true]
  omega
theorem reg_back {L : List (List Int)} {a b : Nat} (hab : a ≤ b) (hb : b < L.length) : regE L (a : Nat) 0 (b : Nat) 0 1 = 0 ∧ regA (a : Nat) 0 (b : Nat) 0 = (a, 0) ∧ regB (a : Nat) 0 (b : Nat) 0 = (b, 0) := by
  have hs : ¬ swp (a : Nat) 0 (b : Nat) 0 := by unfold swp; omega
  refine ⟨?_, ?_, ?_⟩
  · unfold regE
    rw [clip_zero (by omega), clip_zero hb, if_neg (by decide), if_neg (fun h => h.elim (fun h => by omega) (fun h => h.elim (fun h => h ⟨rfl, rfl⟩) (fun h => h ⟨rfl, rfl⟩)))]
  · unfold regA; rw [if_neg hs]; simp
  · unfold regB; rw [if_neg hs]; simp
theorem take_back {L : List (List Int)} {a b : Nat} (hab : a ≤ b) (hb : b < L.length) : takeS L (a : Nat) 0 (b : Nat) 0 1 = (L.drop a).take (b + 1 - a) := by
  obtain ⟨_, h2, h3⟩ := reg_back (L := L) hab hb
  unfold takeS rgN
  rw [h2, h3]
  exact gath_id (a, 0) (b, 0) (by dsimp only; omega)
theorem back_eq (L : List (List Int)) {a b : Nat} (hab : a ≤ b) : L.take a ++ (L.drop a).take (b + 1 - a) ++ L.drop (b + 1) = L := by
  have h1 : L.drop (b + 1) = (L.drop a).drop (b + 1 - a) := by rw [List.drop_drop]; congr 1; omega
  rw [h1, List.append_assoc, List.take_append_drop, List.take_append_drop]
/-- What the cut leaves, and where. -/
def bkC (L : List (List Int)) (a b : Nat) : List (List Int) := L.take a ++ L.drop (b + 1)
theorem bkC_len {L : List (List Int)} {a b : Nat} (hab : a ≤ b) (hb : b < L.length) : (bkC L a b).length = L.length - (b + 1 - a) := by
  unfold bkC; rw [List.length_append, List.length_take, List.length_drop]; omega
theorem bkC_tot (L : List (List Int)) (a b : Nat) : tot (bkC L a b) ≤ 2 * tot L := by
  have h1 := tot_take L a
  have h2 := tot_drop L (b + 1)
  unfold bkC; rw [tot_append]; omega
theorem line_back {L : List (List Int)} {a b : Nat} (hab : a ≤ b) (hb : b < L.length) (hne : ¬ b + 1 - a = L.length) (k : Int) :
    (lineP (bkC L a b) ((min a ((bkC L a b).length - 1) : Nat) : Int) k (decide ((b : Int) = (L.length : Int) - 1)) 1 ((L.drop a).take (b + 1 - a))).1 = L := by
  have hl := bkC_len hab hb
  have hat : lineAt (bkC L a b) ((min a ((bkC L a b).length - 1) : Nat) : Int) k (decide ((b : Int) = (L.length : Int) - 1)) = a := by
    unfold lineAt clipS clp
    dsimp only
    rw [Int.toNat_natCast]
    by_cases h : (b : Int) = (L.length : Int) - 1
    · rw [if_pos (decide_eq_true h)]; omega
    · rw [if_neg (by rw [decide_eq_false h]; decide)]; omega
  have htl : (L.take a).length = a := by rw [List.length_take]; omega
  unfold lineP
  dsimp only
  rw [hat]
  have e1 : (bkC L a b).take a = L.take a := by unfold bkC; rw [List.take_append_of_le_length (by omega), List.take_of_length_le (by omega)]
  have e2 : (bkC L a b).drop a = L.drop (b + 1) := by unfold bkC; rw [List.drop_append_of_le_length (by omega), List.drop_of_length_le (by omega), List.nil_append]
  rw [e1, e2]
  have e3 : (List.replicate 1 ((L.drop a).take (b + 1 - a))).flatten = (L.drop a).take (b + 1 - a) := by simp
  rw [e3]
  exact back_eq L hab
theorem cut_back {L : List (List Int)} {a b : Nat} (hab : a ≤ b) (hb : b < L.length) (hne : ¬ b + 1 - a = L.length) :
    cutS L 1 (regA (a : Nat) 0 (b : Nat) 0) (regB (a : Nat) 0 (b : Nat) 0) = (bkC L a b, (min a ((bkC L a b).length - 1), firstS (rowN (bkC L a b) (min a ((bkC L a b).length - 1))))) := by
  obtain ⟨_, h2, h3⟩ := reg_back (L := L) hab hb
  have hl := bkC_len hab hb
  have ho : orOne (bkC L a b) = bkC L a b := by unfold orOne; rw [if_neg (by omega)]
  rw [h2, h3]
  unfold cutS
  rw [if_pos rfl]
  dsimp only
  rw [show L.take a ++ L.drop (b + 1) = bkC L a b from rfl, ho]
theorem cut_back0 {L : List (List Int)} {a b : Nat} (hab : a ≤ b) (hb : b < L.length) (hne : b + 1 - a = L.length) :
    (cutS L 1 (regA (a : Nat) 0 (b : Nat) 0) (regB (a : Nat) 0 (b : Nat) 0)).1 = [[]] := by
  obtain ⟨_, h2, h3⟩ := reg_back (L := L) hab hb
  have hl := bkC_len hab hb
  have ho : orOne (bkC L a b) = [[]] := by unfold orOne; rw [if_pos (by omega)]
  rw [h2, h3]
  unfold cutS
  rw [if_pos rfl]
  dsimp only
  rw [show L.take a ++ L.drop (b + 1) = bkC L a b from rfl, ho]
theorem plain_part {L : List (List Int)} (h : plainL L = true) (a m : Nat) : plainL ((L.drop a).take m) = true := by
  unfold plainL at *
  rw [List.all_eq_true] at *
  exact fun x hx => h x (List.mem_of_mem_drop (List.mem_of_mem_take hx))
set_option maxHeartbeats 4000000 in
theorem OperBack_c (w : World) (A0 : Option Addr) (c0 : Nat) (xss : List (List Int)) (hl : RowsAt w A0 xss) (hc : xss.length ≤ c0) (hb : xss.length ≤ 300 → tot xss ≤ 36028797018963968) (n0 n1 : Int) :
    Val Try.prog 10 [.slice A0 xss.length c0, .agg #[.int .i64 n0, .int .i64 n1]] w (.bool true) := by
  refine enterF Try.func10 rfl Try.ntmps10 rfl rfl ?_
  repeat first | refine W_seq ?_ | refine W_region (by rfl) ?_
  refine W_box (cs := [_, _]) (by rfl) (by rfl) (by rfl) (fun b3 => ?_)
  repeat first | refine W_seq ?_ | refine W_region (by rfl) ?_ | refine W_opsnil ?_ | refine W_pure TOk (by rfl) (by first | trivial | (simp only [okI, and_true, true_and, and_self] <;> omega) | omega) ?_
  refine W_callV (by rfl) Try.call45 (by rfl) (fun w1 hw => Fit_c w1 A0 c0 xss (hl.below hw.below) hb) ?_
  repeat first | refine W_pure TOk (by rfl) (by first | trivial | (simp only [okI, and_true, true_and, and_self] <;> omega) | omega) ?_
  refine W_dec 19 (by rfl) (fun hs => ?_) (fun hs => ?_)
  · repeat first | refine W_seq ?_ | refine W_region (by rfl) ?_ | refine W_opsnil ?_ | refine W_pure TOk (by rfl) (by first | trivial | (simp only [okI, and_true, true_and, and_self] <;> omega) | omega) ?_ | refine W_off (by rfl) (by rfl) (by rfl) (by rfl) (by rfl) ?_ | refine W_cond_t (by rfl) ?_
    refine W_callV (by rfl) Try.call51 (by rfl) (fun w1 hw => Awake13_c w1) ?_
    repeat first | refine W_opsnil ?_ | refine W_pure TOk (by rfl) (by first | trivial | (simp only [okI, and_true, true_and, and_self] <;> omega) | omega) ?_
    exact W_retF (vs := [_]) ⟨rfl, trivial⟩ (Ent.nil _) ⟨rfl, rfl⟩
  · have hsm : small xss = true ∧ plainL xss = true := by simpa using hs
    have hsm2 : xss.length ≤ 300 ∧ runes xss ≤ 3000 := by simpa [small] using hsm.1
    have hru : runes xss = xss.length - 1 + tot xss := rfl
    repeat first | refine W_opsnil ?_ | refine W_pure TOk (by rfl) (by first | trivial | (simp only [okI, and_true, true_and, and_self] <;> omega) | omega) ?_ | refine W_on (by rfl) (by rfl) (by rfl) ?_
    refine W_cond_d (by rfl) (fun hz => ?_) (fun hz => ?_)
    · repeat first | refine W_seq ?_ | refine W_region (by rfl) ?_
      refine W_callV (by rfl) Try.call51 (by rfl) (fun w1 hw => Awake13_c w1) ?_
      repeat first | refine W_opsnil ?_ | refine W_pure TOk (by rfl) (by first | trivial | (simp only [okI, and_true, true_and, and_self] <;> omega) | omega) ?_
      exact W_retF (vs := [_]) ⟨rfl, trivial⟩ (Ent.nil _) ⟨rfl, rfl⟩
    · repeat first | refine W_seq ?_ | refine W_skip ?_ | refine W_region (by rfl) ?_ | refine W_opsnil ?_ | refine W_pure TOk (by rfl) (by first | trivial | (simp only [okI, and_true, true_and, and_self] <;> omega) | omega) ?_ | refine W_load_box 0 TOk (by rfl) (by rfl) (by rfl) (by rfl) (by rfl) ?_
      obtain ⟨a, ha, hax⟩ : ∃ a : Nat, maxI 0 (minI n0 ((xss.length : Nat) - 1)) = (a : Int) ∧ a < xss.length := by
        refine ⟨(maxI 0 (minI n0 ((xss.length : Nat) - 1))).toNat, ?_, ?_⟩ <;> unfold maxI minI <;> split <;> split <;> omega
      rw [ha]
      obtain ⟨b, hbe, hab, hbx⟩ : ∃ b : Nat, maxI (a : Int) (minI n1 ((xss.length : Nat) - 1)) = (b : Int) ∧ a ≤ b ∧ b < xss.length := by
        refine ⟨(maxI (a : Int) (minI n1 ((xss.length : Nat) - 1))).toNat, ?_, ?_, ?_⟩ <;> unfold maxI minI <;> split <;> split <;> omega
      rw [hbe]
      refine W_alloc (cs := [_, _, _, _, _]) TOk (by rfl) (by rfl) (fun b7 => ?_)
      repeat first | refine W_seq ?_ | refine W_region (by rfl) ?_ | refine W_opsnil ?_ | refine W_pure TOk (by rfl) (by first | trivial | (simp only [okI, and_true, true_and, and_self] <;> omega) | omega) ?_ | refine W_load_boxN 0 TOk (by rfl) (by rfl) (by rfl) (by rfl) (by rfl) ?_ | (refine W_store_box 0 TOk (by rfl) (by rfl) (by rfl) (by rfl) (by rfl) (by rfl) ?_; dsimp only [setL, putL, vcells])
      obtain ⟨hre, _, _⟩ := reg_back hab hbx
      refine W_call _ (by rfl) Try.call47 (by rfl) (fun w1 hw => Take_c w1 A0 c0 xss (hl.below hw.below) (by omega) (a : Nat) 0 (b : Nat) 0 1) ?_
      rintro _ _ (⟨h, _⟩ | ⟨_, A6, c6, vs6, rfl, hv6, rfl⟩)
      · exact absurd hre h
      rw [take_back hab hbx] at hv6 ⊢
      dsimp only [List.cons_append, List.nil_append]
      repeat first | refine W_pure TOk (by rfl) (by first | trivial | (simp only [okI, and_true, true_and, and_self] <;> omega) | omega) ?_
      refine W_alloc (cs := [_, _]) TOk (by rfl) (by rfl) (fun b8 => ?_)
      repeat first | refine W_seq ?_ | refine W_region (by rfl) ?_ | refine W_opsnil ?_ | refine W_pure TOk (by rfl) (by first | trivial | (simp only [okI, and_true, true_and, and_self] <;> omega) | omega) ?_ | refine W_load_boxN 3 TOk (by rfl) (by rfl) (by rfl) (by rfl) (by rfl) ?_ | (refine W_store_box 0 TOk (by rfl) (by rfl) (by rfl) (by rfl) (by rfl) (by rfl) ?_; dsimp only [setL, putL, vcells])
      refine W_call _ (by rfl) Try.call52 (by rfl) (fun w1 hw => Cut_c w1 A0 c0 xss (hl.below hw.below) hc (by omega) (a : Nat) 0 (b : Nat) 0 1) ?_
      rintro _ _ (⟨h, _⟩ | ⟨_, A9, c9, vs9, rfl, hv9, rfl⟩)
      · exact absurd hre h
      have hGl : ((xss.drop a).take (b + 1 - a)).length = b + 1 - a := by rw [List.length_take, List.length_drop]; omega
      have hGt : tot ((xss.drop a).take (b + 1 - a)) ≤ tot xss := Nat.le_trans (tot_take _ _) (tot_drop _ _)
      have hGp := plain_part hsm.2 a (b + 1 - a)
      have hGr : runes ((xss.drop a).take (b + 1 - a)) = ((xss.drop a).take (b + 1 - a)).length - 1 + tot ((xss.drop a).take (b + 1 - a)) := rfl
      dsimp only [List.cons_append, List.nil_append]
      repeat first | refine W_pure TOk (by rfl) (by first | trivial | (simp only [okI, and_true, true_and, and_self] <;> omega) | omega) ?_
      refine W_alloc (cs := [_, _]) TOk (by rfl) (by rfl) (fun b11 => ?_)
      repeat first | refine W_seq ?_ | refine W_region (by rfl) ?_ | refine W_opsnil ?_ | refine W_pure TOk (by rfl) (by first | trivial | (simp only [okI, and_true, true_and, and_self] <;> omega) | omega) ?_ | refine W_on (by rfl) (by rfl) (by rfl) ?_ | refine W_load_box 3 TOk (by rfl) (by rfl) (by rfl) (by rfl) (by rfl) ?_ | (refine W_store_box 0 TOk (by rfl) (by rfl) (by rfl) (by rfl) (by rfl) (by rfl) ?_; dsimp only [setL, putL, vcells])
      refine W_cond_nd (by rfl) (fun hne => absurd (by omega) hne) (fun heq => ?_)
      repeat first | refine W_seq ?_ | refine W_skip ?_ | refine W_region (by rfl) ?_ | refine W_opsnil ?_ | refine W_pure TOk (by rfl) (by first | trivial | (simp only [okI, and_true, true_and, and_self] <;> omega) | omega) ?_
      refine W_cond_d (by rfl) (fun hal => ?_) (fun hal => ?_)
      · rw [cut_back0 hab hbx (by omega)] at hv9 ⊢
        obtain ⟨v9, hv90⟩ : ∃ v, vs9[0]? = some v := ⟨_, List.getElem?_eq_getElem (by rw [hv9]; decide)⟩
        rw [show ([[]] : List (List Int)).length = 1 from rfl] at hv9 ⊢
        refine W_pick 2 (by rfl) ?_
        refine W_ent (rowsA_split (xs := []) vs9 [[]] hv9 hv90 rfl _) ?_
        refine W_rowA (fun A7 c7 hvA => ?_)
        subst hvA
        repeat first | refine W_seq ?_ | refine W_region (by rfl) ?_ | refine W_pure TOk (by rfl) (by first | trivial | (simp only [okI, and_true, true_and, and_self] <;> omega) | omega) ?_ | refine W_on (by rfl) (by rfl) (by rfl) ?_
        refine W_index TOk (by rfl) (by rfl) (by rfl) (by first | exact es48 | exact es22 | exact es136 | exact es150 | exact es223 | exact es29 | exact es132 | exact es207) (by omega) (by omega) (fun w1 hw => (hw.hp.cells 4 rfl).isSome (by rw [hv9]; decide)) ?_
        repeat first | refine W_on (by rfl) (by rfl) (by rfl) ?_
        refine W_load TOk (by rfl) (by rfl) (by rfl) (fun w1 hw => (hw.hp.cells 4 rfl).elem1 hv90) ?_
        repeat first | refine W_pure TOk (by rfl) (by first | trivial | (simp only [okI, and_true, true_and, and_self] <;> omega) | omega) ?_ | refine W_on (by rfl) (by rfl) (by rfl) ?_
        refine W_callV (by rfl) Try.call51 (by rfl) (fun w1 hw => Awake13_c w1) ?_
        repeat first | refine W_opsnil ?_ | refine W_pure TOk (by rfl) (by first | trivial | (simp only [okI, and_true, true_and, and_self] <;> omega) | omega) ?_
        exact W_retF (vs := [_]) ⟨rfl, trivial⟩ (Ent.nil _) ⟨rfl, rfl⟩
      · have hne : ¬ b + 1 - a = xss.length := by omega
        have hcb := cut_back hab hbx hne
        have hcl := bkC_len hab hbx
        have hct := bkC_tot xss a b
        have hlb := line_back hab hbx hne
        rw [hcb] at hv9 ⊢
        generalize bkC xss a b = C at *
        generalize (xss.drop a).take (b + 1 - a) = G at *
        unfold posN
        dsimp only at hv9 ⊢
        repeat first | refine W_seq ?_ | refine W_skip ?_ | refine W_region (by rfl) ?_ | refine W_pure TOk (by rfl) (by first | trivial | (simp only [okI, and_true, true_and, and_self] <;> omega) | omega) ?_ | refine W_load_boxN 0 TOk (by rfl) (by rfl) (by rfl) (by rfl) (by rfl) ?_ | refine W_load_boxN 3 TOk (by rfl) (by rfl) (by rfl) (by rfl) (by rfl) ?_
        refine W_ownlen 1 (by rfl) (fun _ hq9 _ => ?_)
        refine W_ownlen 4 (by rfl) (fun _ hq6 _ => ?_)
        have hfit : ∀ k : Int, fitE (lineP C ((min a (C.length - 1) : Nat) : Int) k (decide ((b : Int) = (xss.length : Int) - 1)) 1 G).1 = 0 := fun k => by
          rw [hlb]; unfold fitE; rw [if_neg (by omega)]
        refine W_call _ (by rfl) Try.call55 (by rfl) (fun w1 hw => Paste_l w1 A9 c9 C (rows_of hw.hp 1 2 rfl rfl hv9) hq9 (by omega) ((min a (C.length - 1) : Nat) : Int) ((firstS (rowN C (min a (C.length - 1))) : Nat) : Int) A6 c6 G (rows_of hw.hp 4 5 rfl rfl hv6) hq6 (by omega) (decide ((b : Int) = (xss.length : Int) - 1)) 1 (by omega) hGp (by omega) (by omega) (by omega)) ?_
        rintro _ _ (⟨h, _⟩ | ⟨_, A10, c10, vs10, rfl, hv10, rfl⟩)
        · exact absurd (hfit _) h
        rw [hlb] at hv10 ⊢
        dsimp only [List.cons_append, List.nil_append]
        repeat first | refine W_pure TOk (by rfl) (by first | trivial | (simp only [okI, and_true, true_and, and_self] <;> omega) | omega) ?_
        refine W_alloc (cs := [_, _]) TOk (by rfl) (by rfl) (fun b14 => ?_)
        repeat first | refine W_seq ?_ | refine W_region (by rfl) ?_ | refine W_opsnil ?_ | refine W_pure TOk (by rfl) (by first | trivial | (simp only [okI, and_true, true_and, and_self] <;> omega) | omega) ?_ | refine W_on (by rfl) (by rfl) (by rfl) ?_ | (refine W_store_box 0 TOk (by rfl) (by rfl) (by rfl) (by rfl) (by rfl) (by rfl) ?_; dsimp only [setL, putL, vcells])
        refine W_callV (by rfl) Try.call50 (by rfl) (fun w1 hw => Same_c w1 A10 A0 c10 c0 xss xss (rows_of hw.hp 1 2 rfl rfl hv10) (hl.below hw.below) (by omega) (by omega)) ?_
        repeat first | refine W_pure TOk (by rfl) (by first | trivial | (simp only [okI, and_true, true_and, and_self] <;> omega) | omega) ?_
        refine W_dec 114 (by rfl) (fun _ => ?_) (fun h => by simp at h)
        repeat first | refine W_on (by rfl) (by rfl) (by rfl) ?_
        refine W_callV (by rfl) Try.call51 (by rfl) (fun w1 hw => Awake13_c w1) ?_
        repeat first | refine W_opsnil ?_ | refine W_pure TOk (by rfl) (by first | trivial | (simp only [okI, and_true, true_and, and_self] <;> omega) | omega) ?_
        exact W_retF (vs := [_]) ⟨rfl, trivial⟩ (Ent.nil _) ⟨rfl, rfl⟩
end Go.Proofs.Ytdfibmbedjpcgaa
