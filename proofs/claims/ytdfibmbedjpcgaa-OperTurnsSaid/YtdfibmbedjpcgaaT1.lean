/- Contracts: letters turned. -/
import Derived.Test.YtdfibmbedjpcgaaO5
import Derived.Test.YtdfibmbedjpcgaaEngC
import Derived.Test.YtdfibmbedjpcgaaV4
set_option linter.unusedVariables false
set_option linter.unusedSimpArgs false
namespace Go.Proofs.Ytdfibmbedjpcgaa
open Go Go.RowKit Eng Ls
attribute [local irreducible] Eng.W

/-- A letter turned. -/
def turnS (how r : Int) : Int := if (97 ≤ r ∧ r ≤ 122) ∧ how ≠ 117 then r - 32 else if (65 ≤ r ∧ r ≤ 90) ∧ how ≠ 85 then r + 32 else r
def lett (r : Int) : Prop := (97 ≤ r ∧ r ≤ 122) ∨ (65 ≤ r ∧ r ≤ 90)
instance (r : Int) : Decidable (lett r) := by unfold lett; exact inferInstance
def orV (r : Int) : Int := IntKind.i32.wrap (BitVec.ofInt IntKind.i32.bits r ||| BitVec.ofInt IntKind.i32.bits 32).toNat
def anV (r : Int) : Int := IntKind.i32.wrap (BitVec.ofInt IntKind.i32.bits r &&& ~~~ BitVec.ofInt IntKind.i32.bits 32).toNat
def xoV (r : Int) : Int := IntKind.i32.wrap (BitVec.ofInt IntKind.i32.bits r ^^^ BitVec.ofInt IntKind.i32.bits 32).toNat
def orLaw (r : Int) : Prop := (lett r → orV r = (if r ≤ 90 then r + 32 else r) ∧ anV (orV r) = orV r - 32 ∧ xoV r = (if r ≤ 90 then r + 32 else r - 32)) ∧ (¬ lett r → orV r < 97 ∨ 122 < orV r ∨ 122 < r)
instance (r : Int) : Decidable (orLaw r) := by unfold orLaw; exact inferInstance
theorem or_low : ∀ n : Fin 123, orLaw (n.val : Int) := by decide +kernel
theorem or_neg {r : Int} (h1 : -2147483648 ≤ r) (h2 : r < 0) : orV r < 0 := by
  unfold orV
  have hb : (BitVec.ofInt 32 r).toNat = (4294967296 + r).toNat := by
    rw [BitVec.toNat_ofInt]
    congr 1
    show r % 4294967296 = _
    omega
  have h3 : (BitVec.ofInt 32 r).toNat ≤ (BitVec.ofInt 32 r ||| BitVec.ofInt 32 32).toNat := by
    rw [BitVec.toNat_or]; exact Nat.left_le_or
  have h4 : (BitVec.ofInt 32 r ||| BitVec.ofInt 32 32).toNat < 4294967296 := BitVec.isLt _
  show IntKind.i32.wrap (BitVec.ofInt 32 r ||| BitVec.ofInt 32 32).toNat < 0
  generalize (BitVec.ofInt 32 r ||| BitVec.ofInt 32 32).toNat = N at *
  unfold IntKind.wrap
  simp only [IntKind.signed, IntKind.bits]
  show (if (true && decide ((N : Int) % 4294967296 ≥ 2147483648)) = true then (N : Int) % 4294967296 - 4294967296 else (N : Int) % 4294967296) < 0
  have h6 : (true && decide ((N : Int) % 4294967296 ≥ 2147483648)) = true := by
    rw [Bool.true_and]; exact decide_eq_true (by omega)
  rw [if_pos h6]
  omega
theorem or_law {r : Int} (h1 : -2147483648 ≤ r) : orLaw r := by
  by_cases h : 0 ≤ r ∧ r ≤ 122
  · have := or_low ⟨r.toNat, by omega⟩
    dsimp only at this
    rwa [Int.toNat_of_nonneg h.1] at this
  · refine ⟨fun hl => absurd hl (by unfold lett; omega), fun hl => ?_⟩
    rcases Int.lt_or_le r 0 with h0 | h0
    · exact .inl (by have := or_neg h1 h0; omega)
    · exact .inr (.inr (by omega))
theorem lett_turn {how r : Int} (h : ¬ lett r) : turnS how r = r := by
  unfold lett at h; unfold turnS; rw [if_neg (by omega), if_neg (by omega)]
/-- Some letters of a row turned. -/
def turnP (how : Int) (P : Nat → Bool) (x : List Int) : List Int := x.mapIdx fun j r => if P j = true then turnS how r else r
theorem turnP_len (how : Int) (P : Nat → Bool) (x : List Int) : (turnP how P x).length = x.length := by simp [turnP]
theorem turnP_congr {how : Int} {P Q : Nat → Bool} {x : List Int} (h : ∀ j, j < x.length → P j = Q j) : turnP how P x = turnP how Q x := by
  apply List.ext_getElem (by simp [turnP])
  intro j h1 h2
  simp only [turnP, List.getElem_mapIdx, h j (by rw [turnP_len] at h1; exact h1)]
theorem turnP_none {how : Int} {P : Nat → Bool} {x : List Int} (h : ∀ j, j < x.length → P j = false) : turnP how P x = x := by
  apply List.ext_getElem (by simp [turnP])
  intro j h1 h2
  simp [turnP, h j h2]
theorem rd_getE {x : List Int} {k : Nat} (h : k < x.length) : rd x (k : Int) = x[k] := by
  have := rd_get (xs := x) (i := (k : Int)) (by omega) (by omega)
  rw [Int.toNat_natCast, List.getElem?_eq_getElem h] at this
  exact (Option.some.inj this).symm
theorem turnP_rd {how : Int} {P : Nat → Bool} {x : List Int} {k : Nat} (h : k < x.length) (hP : P k = false) : rd (turnP how P x) (k : Int) = rd x (k : Int) := by
  rw [rd_getE h, rd_getE (by rw [turnP_len]; exact h)]
  simp [turnP, hP]
theorem turnP_set {how : Int} {P : Nat → Bool} {x : List Int} {k : Nat} (h : k < x.length) {v : Int} (hv : v = if P k = true then turnS how (rd x (k : Int)) else rd x (k : Int)) :
    (turnP how (fun j => decide (j < k) && P j) x).set k v = turnP how (fun j => decide (j < k + 1) && P j) x := by
  subst hv
  rw [rd_getE h]
  apply List.ext_getElem (by simp [turnP])
  intro j h1 h2
  rw [List.getElem_set]
  simp only [turnP, List.getElem_mapIdx]
  by_cases hj : k = j
  · subst hj
    rw [if_pos rfl]
    simp
  · rw [if_neg hj]
    have e : (decide (j < k + 1) && P j) = (decide (j < k) && P j) := by congr 1; rw [decide_eq_decide]; omega
    simp only [e]
theorem turnP_skip {how : Int} {P : Nat → Bool} {x : List Int} {k : Nat} (h : k < x.length) (hv : P k = true → turnS how (rd x (k : Int)) = rd x (k : Int)) :
    turnP how (fun j => decide (j < k) && P j) x = turnP how (fun j => decide (j < k + 1) && P j) x := by
  apply List.ext_getElem (by simp [turnP])
  intro j h1 h2
  simp only [turnP, List.getElem_mapIdx]
  by_cases hj : k = j
  · subst hj
    rw [rd_getE h] at hv
    by_cases hp : P k = true
    · simp [hp, hv hp]
    · simp [hp]
  · have e : (decide (j < k + 1) && P j) = (decide (j < k) && P j) := by congr 1; rw [decide_eq_decide]; omega
    simp only [e]
set_option maxHeartbeats 2000000 in
theorem turned_c (w : World) (r how : Int) : Val Try.prog 152 [.int .i32 r, .int .i32 how] w (.int .i32 (turnS how r)) := by
  refine enterF Try.func152 rfl Try.ntmps152 rfl rfl ?_
  repeat first | refine W_seq ?_ | refine W_region (by rfl) ?_ | refine W_opsnil ?_ | refine W_pure TOk (by rfl) (by first | trivial | (simp only [okI, and_true, true_and, and_self] <;> omega) | omega) ?_
  refine W_dec 9 (by rfl) (fun h1 => ?_) (fun h1 => ?_)
  · have h1 := of_decide_eq_true h1
    repeat first | refine W_seq ?_ | refine W_region (by rfl) ?_ | refine W_opsnil ?_ | refine W_pure TOk (by rfl) (by first | trivial | (simp only [okI, and_true, true_and, and_self] <;> omega) | omega) ?_ | refine W_on (by rfl) (by rfl) (by rfl) ?_
    refine W_dec 5 (by rfl) (fun h2 => ?_) (fun h2 => ?_)
    · have h2 := of_decide_eq_true h2
      refine W_dec 15 (by rfl) (fun h3 => ?_) (fun h3 => ?_)
      · have h3 := of_decide_eq_true h3
        repeat first | refine W_seq ?_ | refine W_region (by rfl) ?_ | refine W_opsnil ?_ | refine W_pure TOk (by rfl) (by first | trivial | (simp only [okI, and_true, true_and, and_self] <;> omega) | omega) ?_ | refine W_on (by rfl) (by rfl) (by rfl) ?_
        refine W_dec 6 (by rfl) (fun h => absurd (of_decide_eq_true h) (by omega)) (fun _ => ?_)
        refine W_cond_nd (by rfl) (fun h4 => ?_) (fun h4 => ?_)
        · repeat first | refine W_seq ?_ | refine W_region (by rfl) ?_ | refine W_opsnil ?_ | refine W_pure TOk (by rfl) (by first | trivial | (simp only [okI, and_true, true_and, and_self] <;> omega) | omega) ?_
          exact W_retF (vs := [_]) ⟨rfl, trivial⟩ (Ent.nil _) ⟨by unfold turnS; rw [if_pos ⟨⟨h1, h2⟩, h4⟩]; show Value.int IntKind.i32 (r - 97 + 65) = _; rw [show r - 97 + 65 = r - 32 by omega], rfl⟩
        · repeat first | refine W_seq ?_ | refine W_skip ?_ | refine W_region (by rfl) ?_ | refine W_opsnil ?_ | refine W_pure TOk (by rfl) (by first | trivial | (simp only [okI, and_true, true_and, and_self] <;> omega) | omega) ?_ | refine W_off (by rfl) (by rfl) (by rfl) (by rfl) (by rfl) ?_ | refine W_cond_f (by rfl) ?_
          exact W_retF (vs := [_]) ⟨rfl, trivial⟩ (Ent.nil _) ⟨by unfold turnS; rw [if_neg (by omega), if_neg (by omega)]; rfl, rfl⟩
      · exact absurd (of_decide_eq_false h3) (by omega)
    · have h2 := of_decide_eq_false h2
      refine W_dec 15 (by rfl) (fun h3 => ?_) (fun h3 => ?_)
      · repeat first | refine W_seq ?_ | refine W_skip ?_ | refine W_region (by rfl) ?_ | refine W_opsnil ?_ | refine W_pure TOk (by rfl) (by first | trivial | (simp only [okI, and_true, true_and, and_self] <;> omega) | omega) ?_ | refine W_on (by rfl) (by rfl) (by rfl) ?_ | refine W_off (by rfl) (by rfl) (by rfl) (by rfl) (by rfl) ?_ | refine W_cond_f (by rfl) ?_
        refine W_dec 28 (by rfl) (fun h => absurd (of_decide_eq_true h) (by omega)) (fun _ => ?_)
        repeat first | refine W_seq ?_ | refine W_skip ?_ | refine W_region (by rfl) ?_ | refine W_opsnil ?_ | refine W_pure TOk (by rfl) (by first | trivial | (simp only [okI, and_true, true_and, and_self] <;> omega) | omega) ?_ | refine W_off (by rfl) (by rfl) (by rfl) (by rfl) (by rfl) ?_ | refine W_cond_f (by rfl) ?_
        exact W_retF (vs := [_]) ⟨rfl, trivial⟩ (Ent.nil _) ⟨by unfold turnS; rw [if_neg (by omega), if_neg (by omega)]; rfl, rfl⟩
      · exact absurd (of_decide_eq_false h3) (by omega)
  · have h1 := of_decide_eq_false h1
    repeat first | refine W_seq ?_ | refine W_region (by rfl) ?_ | refine W_opsnil ?_ | refine W_pure TOk (by rfl) (by first | trivial | (simp only [okI, and_true, true_and, and_self] <;> omega) | omega) ?_ | refine W_off (by rfl) (by rfl) (by rfl) (by rfl) (by rfl) ?_
    refine W_dec 15 (by rfl) (fun h3 => ?_) (fun h3 => ?_)
    · have h3 := of_decide_eq_true h3
      repeat first | refine W_seq ?_ | refine W_skip ?_ | refine W_region (by rfl) ?_ | refine W_opsnil ?_ | refine W_pure TOk (by rfl) (by first | trivial | (simp only [okI, and_true, true_and, and_self] <;> omega) | omega) ?_ | refine W_on (by rfl) (by rfl) (by rfl) ?_ | refine W_off (by rfl) (by rfl) (by rfl) (by rfl) (by rfl) ?_ | refine W_cond_f (by rfl) ?_
      refine W_dec 28 (by rfl) (fun h4 => ?_) (fun h4 => ?_)
      · have h4 := of_decide_eq_true h4
        repeat first | refine W_opsnil ?_ | refine W_pure TOk (by rfl) (by first | trivial | (simp only [okI, and_true, true_and, and_self] <;> omega) | omega) ?_ | refine W_on (by rfl) (by rfl) (by rfl) ?_
        refine W_cond_nd (by rfl) (fun h5 => ?_) (fun h5 => ?_)
        · repeat first | refine W_seq ?_ | refine W_region (by rfl) ?_ | refine W_opsnil ?_ | refine W_pure TOk (by rfl) (by first | trivial | (simp only [okI, and_true, true_and, and_self] <;> omega) | omega) ?_
          exact W_retF (vs := [_]) ⟨rfl, trivial⟩ (Ent.nil _) ⟨by unfold turnS; rw [if_neg (by omega), if_pos ⟨⟨h3, h4⟩, h5⟩]; show Value.int IntKind.i32 (r - 65 + 97) = _; rw [show r - 65 + 97 = r + 32 by omega], rfl⟩
        · repeat first | refine W_seq ?_ | refine W_skip ?_ | refine W_region (by rfl) ?_ | refine W_opsnil ?_ | refine W_pure TOk (by rfl) (by first | trivial | (simp only [okI, and_true, true_and, and_self] <;> omega) | omega) ?_
          exact W_retF (vs := [_]) ⟨rfl, trivial⟩ (Ent.nil _) ⟨by unfold turnS; rw [if_neg (by omega), if_neg (by omega)]; rfl, rfl⟩
      · have h4 := of_decide_eq_false h4
        repeat first | refine W_seq ?_ | refine W_skip ?_ | refine W_region (by rfl) ?_ | refine W_opsnil ?_ | refine W_pure TOk (by rfl) (by first | trivial | (simp only [okI, and_true, true_and, and_self] <;> omega) | omega) ?_ | refine W_off (by rfl) (by rfl) (by rfl) (by rfl) (by rfl) ?_ | refine W_cond_f (by rfl) ?_
        exact W_retF (vs := [_]) ⟨rfl, trivial⟩ (Ent.nil _) ⟨by unfold turnS; rw [if_neg (by omega), if_neg (by omega)]; rfl, rfl⟩
    · have h3 := of_decide_eq_false h3
      repeat first | refine W_seq ?_ | refine W_skip ?_ | refine W_region (by rfl) ?_ | refine W_opsnil ?_ | refine W_pure TOk (by rfl) (by first | trivial | (simp only [okI, and_true, true_and, and_self] <;> omega) | omega) ?_ | refine W_off (by rfl) (by rfl) (by rfl) (by rfl) (by rfl) ?_ | refine W_cond_f (by rfl) ?_
      exact W_retF (vs := [_]) ⟨rfl, trivial⟩ (Ent.nil _) ⟨by unfold turnS; rw [if_neg (by omega), if_neg (by omega)]; rfl, rfl⟩
end Go.Proofs.Ytdfibmbedjpcgaa
