/- TextLong: many lines are found as few are. -/
import Derived.Test.YtdfibmbedjpcgaaS9
set_option linter.unusedVariables false
set_option linter.unusedSimpArgs false
namespace Go.Proofs.Ytdfibmbedjpcgaa
open Go Go.RowKit Eng Ls
attribute [local irreducible] Eng.W

namespace Ls

/-- Lines joined are split to themselves. -/
theorem splitL_joinL : ∀ (xss : List (List Int)), xss ≠ [] → plainL xss = true → splitL (joinL xss) = xss
  | [], h, _ => absurd rfl h
  | [x], _, h => by
    simp only [plainL, List.all_cons, Bool.and_eq_true] at h
    exact splitL_plain h.1
  | x :: y :: r, _, h => by
    simp only [plainL, List.all_cons, Bool.and_eq_true] at h
    have ih := splitL_joinL (y :: r) (by simp) (by simp only [plainL, List.all_cons, Bool.and_eq_true]; exact h.2)
    simp only [joinL]
    rw [splitL_app, splitL_plain h.1, ih]
    rfl
end Ls
def zrow (e i : Nat) : List Int := List.replicate (i % e) 0
def zrows (e n : Nat) : List (List Int) := (List.range n).map (zrow e)
theorem zrows_succ (e n : Nat) : zrows e (n + 1) = zrows e n ++ [zrow e n] := by simp [zrows, List.range_succ]
theorem zrows_length (e n : Nat) : (zrows e n).length = n := by simp [zrows]
theorem zrow_length (e i : Nat) : (zrow e i).length = i % e := by simp [zrow]
theorem zrows_get (e n : Nat) {i : Nat} (h : i < n) : (zrows e n)[i]? = some (zrow e i) := by simp [zrows, h]
theorem zrow_plain (e i : Nat) : noNl (zrow e i) = true := by
  unfold noNl zrow
  rw [List.all_eq_true]
  intro x hx
  rw [(List.mem_replicate.1 hx).2]
  rfl
theorem zrows_plain (e n : Nat) : plainL (zrows e n) = true := by
  unfold plainL
  rw [List.all_eq_true]
  intro x hx
  obtain ⟨i, _, rfl⟩ := List.mem_map.1 hx
  exact zrow_plain e i
theorem zrows_tot (e n : Nat) (h : 0 < e) (he : e ≤ 20) : tot (zrows e n) ≤ n * 19 := by
  induction n with
  | zero => simp [zrows, tot]
  | succ n ih =>
    rw [zrows_succ, tot_append]
    have := Nat.mod_lt n h
    simp only [tot, zrow_length]
    omega
theorem i32s_zrow (e i : Nat) : i32s (zrow e i) = List.replicate (i % e) (.int .i32 0) := by simp [i32s, zrow]

theorem tmod_nat (a b : Nat) : Int.tmod (a : Int) (b : Int) = ((a % b : Nat) : Int) := rfl
set_option maxHeartbeats 2000000 in
theorem TextLong_c (w : World) (n0 e0 : Int) : Val Try.prog 5 [.int .i64 n0, .int .i64 e0] w (.bool true) := by
  refine enterF Try.func5 rfl Try.ntmps5 rfl rfl ?_
  repeat first
    | refine W_seq ?_
    | refine W_skip ?_
    | refine W_block ?_
    | refine W_blk ?_
    | refine W_exit (by rfl) ?_
    | refine W_region (by rfl) ?_
    | refine W_opsnil ?_
    | refine W_pure TOk (by rfl) (by first | trivial | (simp only [okI, and_true, true_and, and_self] <;> omega)) ?_
    | refine W_on (by rfl) (by rfl) (by rfl) ?_
    | refine W_off (by rfl) (by rfl) (by rfl) (by rfl) (by rfl) ?_
    | refine W_offU (by rfl) (by rfl) (by rfl) (by rfl) ?_
    | refine W_cond_t (by rfl) ?_
    | refine W_cond_f (by rfl) ?_
  obtain ⟨N, hN, hN1, hN2⟩ : ∃ N : Nat, maxI 1 (minI n0 1000) = (N : Int) ∧ 1 ≤ N ∧ N ≤ 1000 := by
    refine ⟨(maxI 1 (minI n0 1000)).toNat, ?_, ?_, ?_⟩ <;> unfold maxI minI <;> split <;> split <;> omega
  obtain ⟨e, he, he1, he2⟩ : ∃ e : Nat, maxI 1 (minI e0 20) = (e : Int) ∧ 1 ≤ e ∧ e ≤ 20 := by
    refine ⟨(maxI 1 (minI e0 20)).toNat, ?_, ?_, ?_⟩ <;> unfold maxI minI <;> split <;> split <;> omega
  rw [hN, he]
  refine W_loop (ι := Nat × Option Addr × Nat × List Value) (fun ⟨k, A, c, vs⟩ => [(0, .int .i64 (N : Nat)), (1, .int .i64 (e : Nat)), (5, .slice A k c), (6, .int .i64 (k : Nat))]) (fun ⟨k, A, c, vs⟩ => [own 48 1 A k c vs, rowsA vs (zrows e k)])
    (fun ⟨k, A, c, vs⟩ => k ≤ N ∧ vs.length = k) (fun q => N - q.1) (0, none, 0, []) ⟨by omega, rfl⟩ ⟨rfl, rfl, rfl, rfl, trivial⟩ ((Ent.rowsA_nil _).trans (Ent.own_zero _ _ _ _)) ?_
  rintro ⟨k, A, c, vs⟩ ⟨hk, hvl⟩
  dsimp only at hk hvl ⊢
  repeat first
    | refine W_seq ?_
    | refine W_skip ?_
    | refine W_block ?_
    | refine W_blk ?_
    | refine W_exit (by rfl) ?_
    | refine W_region (by rfl) ?_
    | refine W_opsnil ?_
    | refine W_pure TOk (by rfl) (by first | trivial | (simp only [okI, and_true, true_and, and_self] <;> omega)) ?_
    | refine W_on (by rfl) (by rfl) (by rfl) ?_
    | refine W_off (by rfl) (by rfl) (by rfl) (by rfl) (by rfl) ?_
    | refine W_offU (by rfl) (by rfl) (by rfl) (by rfl) ?_
    | refine W_cond_t (by rfl) ?_
    | refine W_cond_f (by rfl) ?_
  refine W_cond_d (by rfl) (fun hlt => ?_) (fun hge => ?_)
  · have hm := Nat.mod_lt k (show 0 < e by omega)
    repeat first
      | refine W_seq ?_
      | refine W_skip ?_
      | refine W_block ?_
      | refine W_blk ?_
      | refine W_exit (by rfl) ?_
      | refine W_region (by rfl) ?_
      | refine W_opsnil ?_
      | refine W_pure TOk (by rfl) (by first | trivial | (simp only [okI, and_true, true_and, and_self] <;> omega)) ?_
      | refine W_on (by rfl) (by rfl) (by rfl) ?_
      | refine W_off (by rfl) (by rfl) (by rfl) (by rfl) (by rfl) ?_
      | refine W_offU (by rfl) (by rfl) (by rfl) (by rfl) ?_
      | refine W_cond_t (by rfl) ?_
      | refine W_cond_f (by rfl) ?_
    rw [tmod_nat]
    refine W_make TOk (by rfl) (by rfl) (by rfl) sl48 (by omega) (by omega) (by omega) (by omega) (fun g => ?_)
    simp only [Int.toNat_natCast]
    have hz : (List.replicate (k % e) (vcells (Value.int IntKind.i32 0))).flatten = i32s (zrow e k) := by
      rw [i32s_zrow]
      induction (k % e) with
      | zero => rfl
      | succ m ih => simp only [List.replicate_succ, List.flatten_cons, ih]; rfl
    rw [hz]
    refine W_lit TOk (cs := [_]) (by rfl) (by first | exact sl48 | exact sl22 | exact sl136 | exact sl150 | exact sl223 | exact sl29 | exact sl132 | exact sl207) (by rfl) (by rfl) (by rfl) (by rfl) (fun g1 => ?_)
    refine W_append_own 2 TOk (by rfl) (by rfl) (by rfl) sl22 (by rfl) (fun w1 hw => hw.hp.cells 0 rfl) (by rfl) (by first | exact i32s_one _ | exact i64s_one _ | exact one_of _ rfl) (by unfold maxLen; omega) (by omega) (fun A2 c2 => ?_); dsimp only [setL]
    repeat first
      | refine W_seq ?_
      | refine W_skip ?_
      | refine W_block ?_
      | refine W_blk ?_
      | refine W_exit (by rfl) ?_
      | refine W_region (by rfl) ?_
      | refine W_opsnil ?_
      | refine W_pure TOk (by rfl) (by first | trivial | (simp only [okI, and_true, true_and, and_self] <;> omega)) ?_
      | refine W_on (by rfl) (by rfl) (by rfl) ?_
      | refine W_off (by rfl) (by rfl) (by rfl) (by rfl) (by rfl) ?_
      | refine W_offU (by rfl) (by rfl) (by rfl) (by rfl) ?_
      | refine W_cond_t (by rfl) ?_
      | refine W_cond_f (by rfl) ?_
    refine W_inv (k + 1, A2, c2, vs ++ [.slice (some ⟨g, 0, none⟩) (k % e) (k % e)]) ⟨by dsimp only; omega, by dsimp only; simp [hvl]⟩ (by dsimp only; omega) ⟨rfl, rfl, rfl, rfl, trivial⟩ ?_
    dsimp only
    rw [zrows_succ]
    refine (Ent.drop1 _ _).trans ?_
    have h5 := Ent.push_row (vs := vs) (xss := zrows e k) (by rw [hvl, zrows_length]) (some ⟨g, 0, none⟩) (k % e) (zrow e k) (own 48 1 A2 (k + 1) c2 (vs ++ [.slice (some ⟨g, 0, none⟩) (k % e) (k % e)])) []
    rw [zrow_length] at h5
    exact h5
  · have hkN : k = N := by omega
    subst hkN
    have htot := zrows_tot e k (by omega) he2
    have hzl := zrows_length e k
    have hru : runes (zrows e k) ≤ 65536 := by unfold runes; omega
    have hok : okT (zrows e k) := ⟨zrows_plain e k, hru⟩
    repeat first
      | refine W_seq ?_
      | refine W_skip ?_
      | refine W_block ?_
      | refine W_blk ?_
      | refine W_exit (by rfl) ?_
      | refine W_region (by rfl) ?_
      | refine W_opsnil ?_
      | refine W_pure TOk (by rfl) (by first | trivial | (simp only [okI, and_true, true_and, and_self] <;> omega)) ?_
      | refine W_on (by rfl) (by rfl) (by rfl) ?_
      | refine W_off (by rfl) (by rfl) (by rfl) (by rfl) (by rfl) ?_
      | refine W_offU (by rfl) (by rfl) (by rfl) (by rfl) ?_
      | refine W_cond_t (by rfl) ?_
      | refine W_cond_f (by rfl) ?_
    have hzl' : Value.slice A k c = .slice A (zrows e k).length c := by rw [hzl]
    rw [hzl']
    refine W_call _ (by rfl) Try.call38 (by rfl) (fun w1 hw => New_c w1 A c (zrows e k) (rows_of hw.hp 0 1 rfl rfl (by rw [hvl, hzl])) (by omega)) ?_
    intro v0 M0 hj0
    rcases hj0 with ⟨hp, b, rfl, rfl⟩ | ⟨hp, rfl, rfl⟩
    · dsimp only [List.cons_append, List.nil_append]
      have hsp := splitL_joinL (zrows e k) (fun h => by rw [h] at hzl; simp at hzl; omega) (zrows_plain e k)
      have hxl := joinL_length (zrows e k)
      generalize joinL (zrows e k) = x at *
      have hlx : (lens x).length = k := by rw [lens_splitL, hsp, hzl]
      have hsz : ∀ i, i < k → siz x i = i % e := fun i hi => by
        unfold siz lens
        rw [hsp, List.getD_eq_getElem?_getD, List.getElem?_map, zrows_get e k hi]
        simp only [Option.map_some, Option.getD_some, zrow_length, Int.toNat_natCast]
      have hba := beg_all x
      rw [hlx] at hba
      refine W_ent (M := [textA b x x.length]) (Ent.cons _ (Ent.nil _)) ?_
      repeat first
        | refine W_seq ?_
        | refine W_skip ?_
        | refine W_block ?_
        | refine W_blk ?_
        | refine W_exit (by rfl) ?_
        | refine W_region (by rfl) ?_
        | refine W_opsnil ?_
        | refine W_pure TOk (by rfl) (by first | trivial | (simp only [okI, and_true, true_and, and_self] <;> omega)) ?_
        | refine W_on (by rfl) (by rfl) (by rfl) ?_
        | refine W_off (by rfl) (by rfl) (by rfl) (by rfl) (by rfl) ?_
        | refine W_offU (by rfl) (by rfl) (by rfl) (by rfl) ?_
        | refine W_cond_t (by rfl) ?_
        | refine W_cond_f (by rfl) ?_
      refine W_loop (ι := Nat) (fun i => [(0, .int .i64 (k : Nat)), (1, .int .i64 (e : Nat)), (7, .pointer (some ⟨b, 0, none⟩)), (8, .int .i64 (beg x i : Nat)), (9, .int .i64 (i : Nat))]) (fun _ => [textA b x x.length])
        (fun i => i ≤ k) (fun i => k - i) 0 (by omega) ⟨rfl, rfl, rfl, by rw [beg_zero]; rfl, rfl, trivial⟩ (Ent.refl _) ?_
      intro i hi
      repeat first
        | refine W_seq ?_
        | refine W_skip ?_
        | refine W_block ?_
        | refine W_blk ?_
        | refine W_exit (by rfl) ?_
        | refine W_region (by rfl) ?_
        | refine W_opsnil ?_
        | refine W_pure TOk (by rfl) (by first | trivial | (simp only [okI, and_true, true_and, and_self] <;> omega)) ?_
        | refine W_on (by rfl) (by rfl) (by rfl) ?_
        | refine W_off (by rfl) (by rfl) (by rfl) (by rfl) (by rfl) ?_
        | refine W_offU (by rfl) (by rfl) (by rfl) (by rfl) ?_
        | refine W_cond_t (by rfl) ?_
        | refine W_cond_f (by rfl) ?_
      refine W_cond_d (by rfl) (fun hlt => ?_) (fun hge => ?_)
      · have hil : i < (lens x).length := by omega
        have hof : offS x (i : Int) 0 = ((beg x i : Int), 0) := by
          have := offS_at (c := 0) hil (by omega)
          simpa using this
        have hbs := beg_snoc hil
        have hbl := siz_le hil
        have hsi := hsz i (by omega)
        have hm := Nat.mod_lt i (show 0 < e by omega)
        have htm := tmod_nat i e
        repeat first
          | refine W_seq ?_
          | refine W_skip ?_
          | refine W_block ?_
          | refine W_blk ?_
          | refine W_exit (by rfl) ?_
          | refine W_region (by rfl) ?_
          | refine W_opsnil ?_
          | refine W_pure TOk (by rfl) (by first | trivial | (simp only [okI, and_true, true_and, and_self] <;> omega)) ?_
          | refine W_on (by rfl) (by rfl) (by rfl) ?_
          | refine W_off (by rfl) (by rfl) (by rfl) (by rfl) (by rfl) ?_
          | refine W_offU (by rfl) (by rfl) (by rfl) (by rfl) ?_
          | refine W_cond_t (by rfl) ?_
          | refine W_cond_f (by rfl) ?_
        refine W_callV (by rfl) Try.call42 (by rfl) (fun w1 hw => Offset_c w1 b x i 0 (textAt 0 hw.hp rfl)) ?_
        rw [hof]
        repeat first
          | refine W_seq ?_
          | refine W_skip ?_
          | refine W_block ?_
          | refine W_blk ?_
          | refine W_exit (by rfl) ?_
          | refine W_region (by rfl) ?_
          | refine W_opsnil ?_
          | refine W_pure TOk (by rfl) (by first | trivial | (simp only [okI, and_true, true_and, and_self] <;> omega)) ?_
          | refine W_on (by rfl) (by rfl) (by rfl) ?_
          | refine W_off (by rfl) (by rfl) (by rfl) (by rfl) (by rfl) ?_
          | refine W_offU (by rfl) (by rfl) (by rfl) (by rfl) ?_
          | refine W_cond_t (by rfl) ?_
          | refine W_cond_f (by rfl) ?_
        refine W_cond_nd (by rfl) (fun h => absurd rfl h) (fun _ => ?_)
        repeat first
          | refine W_seq ?_
          | refine W_skip ?_
          | refine W_block ?_
          | refine W_blk ?_
          | refine W_exit (by rfl) ?_
          | refine W_region (by rfl) ?_
          | refine W_opsnil ?_
          | refine W_pure TOk (by rfl) (by first | trivial | (simp only [okI, and_true, true_and, and_self] <;> omega)) ?_
          | refine W_on (by rfl) (by rfl) (by rfl) ?_
          | refine W_off (by rfl) (by rfl) (by rfl) (by rfl) (by rfl) ?_
          | refine W_offU (by rfl) (by rfl) (by rfl) (by rfl) ?_
          | refine W_cond_t (by rfl) ?_
          | refine W_cond_f (by rfl) ?_
        refine W_inv (i + 1) (by omega) (by omega) ⟨rfl, rfl, rfl, ?_, rfl, trivial⟩ (Ent.refl _)
        rw [htm, hbs, hsi]
        show some (Value.int _ _) = some (Value.int _ _)
        congr 2
      · have hik : i = k := by omega
        subst hik
        repeat first
          | refine W_seq ?_
          | refine W_skip ?_
          | refine W_block ?_
          | refine W_blk ?_
          | refine W_exit (by rfl) ?_
          | refine W_region (by rfl) ?_
          | refine W_opsnil ?_
          | refine W_pure TOk (by rfl) (by first | trivial | (simp only [okI, and_true, true_and, and_self] <;> omega)) ?_
          | refine W_on (by rfl) (by rfl) (by rfl) ?_
          | refine W_off (by rfl) (by rfl) (by rfl) (by rfl) (by rfl) ?_
          | refine W_offU (by rfl) (by rfl) (by rfl) (by rfl) ?_
          | refine W_cond_t (by rfl) ?_
          | refine W_cond_f (by rfl) ?_
        refine W_callV (by rfl) Try.call40 (by rfl) (fun w1 hw => TRunes_c w1 b x (textAt 0 hw.hp rfl)) ?_
        repeat first
          | refine W_seq ?_
          | refine W_skip ?_
          | refine W_block ?_
          | refine W_blk ?_
          | refine W_exit (by rfl) ?_
          | refine W_region (by rfl) ?_
          | refine W_opsnil ?_
          | refine W_pure TOk (by rfl) (by first | trivial | (simp only [okI, and_true, true_and, and_self] <;> omega)) ?_
          | refine W_on (by rfl) (by rfl) (by rfl) ?_
          | refine W_off (by rfl) (by rfl) (by rfl) (by rfl) (by rfl) ?_
          | refine W_offU (by rfl) (by rfl) (by rfl) (by rfl) ?_
          | refine W_cond_t (by rfl) ?_
          | refine W_cond_f (by rfl) ?_
        refine W_dec 64 (by rfl) (fun _ => ?_) (fun h => absurd (of_decide_eq_false h) (by omega))
        repeat first
          | refine W_seq ?_
          | refine W_skip ?_
          | refine W_block ?_
          | refine W_blk ?_
          | refine W_exit (by rfl) ?_
          | refine W_region (by rfl) ?_
          | refine W_opsnil ?_
          | refine W_pure TOk (by rfl) (by first | trivial | (simp only [okI, and_true, true_and, and_self] <;> omega)) ?_
          | refine W_on (by rfl) (by rfl) (by rfl) ?_
          | refine W_off (by rfl) (by rfl) (by rfl) (by rfl) (by rfl) ?_
          | refine W_offU (by rfl) (by rfl) (by rfl) (by rfl) ?_
          | refine W_cond_t (by rfl) ?_
          | refine W_cond_f (by rfl) ?_
        refine W_callV (by rfl) Try.call44 (by rfl) (fun w1 hw => awake_c w1) ?_
        repeat first
          | refine W_seq ?_
          | refine W_skip ?_
          | refine W_block ?_
          | refine W_blk ?_
          | refine W_exit (by rfl) ?_
          | refine W_region (by rfl) ?_
          | refine W_opsnil ?_
          | refine W_pure TOk (by rfl) (by first | trivial | (simp only [okI, and_true, true_and, and_self] <;> omega)) ?_
          | refine W_on (by rfl) (by rfl) (by rfl) ?_
          | refine W_off (by rfl) (by rfl) (by rfl) (by rfl) (by rfl) ?_
          | refine W_offU (by rfl) (by rfl) (by rfl) (by rfl) ?_
          | refine W_cond_t (by rfl) ?_
          | refine W_cond_f (by rfl) ?_
        exact W_retF (vs := [_]) ⟨rfl, trivial⟩ (Ent.nil _) ⟨rfl, rfl⟩
    · exact absurd hok hp
end Go.Proofs.Ytdfibmbedjpcgaa
