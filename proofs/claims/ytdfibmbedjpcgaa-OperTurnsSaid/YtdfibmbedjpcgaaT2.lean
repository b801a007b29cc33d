/- Contracts: a row turned, the program's way. -/
import Derived.Test.YtdfibmbedjpcgaaT1
set_option linter.unusedVariables false
set_option linter.unusedSimpArgs false
namespace Go.Proofs.Ytdfibmbedjpcgaa
open Go Go.RowKit Eng Ls
attribute [local irreducible] Eng.W

def turnRow (how : Int) (x : List Int) (f t : Nat) : List Int := turnP how (fun j => decide (j < t) && decide (f ≤ j)) x
def in32 (x : List Int) : Prop := ∀ k, k < x.length → -2147483648 ≤ rd x (k : Int)
set_option maxHeartbeats 4000000 in
theorem Turn1_c (w : World) (b : Nat) (how : Int) (hcell : w.cell? ⟨b, 0, none⟩ = some (.int .i32 how)) (hhow : how = 126 ∨ how = 117 ∨ how = 85) (B : Option Addr) (c : Nat) (x : List Int) (f t : Nat) (hx : Cells w B (i32s x)) (hr : in32 x) (hc : x.length ≤ c) (hb : x.length ≤ 1073741824) (hft : f ≤ t) (ht : t ≤ x.length) :
    Fresh Try.prog 150 [.slice B x.length c, .int .i64 (f : Nat), .int .i64 (t : Nat), .pointer (some ⟨b, 0, none⟩)] w (RowR (turnRow how x f t)) := by
  refine enterF Try.func150 rfl Try.ntmps150 rfl rfl ?_
  repeat first | refine W_seq ?_ | refine W_region (by rfl) ?_ | refine W_opsnil ?_ | refine W_pure TOk (by rfl) (by first | trivial | (simp only [okI, and_true, true_and, and_self] <;> omega) | omega) ?_
  refine W_call _ (by rfl) Try.call115 (by rfl) (fun w1 hw => Clone_c w1 B c x (hx.below hw.below) (by omega)) ?_; rintro _ _ ⟨A1, c1, rfl, rfl⟩; dsimp only [List.cons_append, List.nil_append]
  repeat first | refine W_seq ?_ | refine W_block ?_ | refine W_region (by rfl) ?_ | refine W_opsnil ?_ | refine W_pure TOk (by rfl) (by first | trivial | (simp only [okI, and_true, true_and, and_self] <;> omega) | omega) ?_
  refine W_loop (ι := Nat) (fun k => [(0, .slice A1 x.length c1), (2, .int .i64 (t : Nat)), (3, .pointer (some ⟨b, 0, none⟩)), (8, .int .i64 (k : Nat))]) (fun k => [own 21 1 A1 x.length c1 (i32s (turnRow how x f k))]) (fun k => f ≤ k ∧ k ≤ t) (fun k => t - k) f ⟨by omega, hft⟩ ⟨rfl, rfl, rfl, rfl, trivial⟩ ?_ ?_
  · unfold turnRow
    rw [turnP_none (fun j _ => by by_cases h : j < f <;> simp [h] <;> omega)]
    exact Ent.refl _
  rintro k ⟨hk1, hk2⟩
  repeat first | refine W_seq ?_ | refine W_region (by rfl) ?_ | refine W_opsnil ?_ | refine W_pure TOk (by rfl) (by first | trivial | (simp only [okI, and_true, true_and, and_self] <;> omega) | omega) ?_
  refine W_cond_d (by rfl) (fun hlt => ?_) (fun hge => ?_)
  · have hkx : k < x.length := by omega
    have hlen := turnP_len how (fun j => decide (j < k) && decide (f ≤ j)) x
    have hrd : rd (turnRow how x f k) (k : Int) = rd x (k : Int) := turnP_rd hkx (by simp)
    have hset : ∀ v, (v = turnS how (rd x (k : Int))) → (turnRow how x f k).set k v = turnRow how x f (k + 1) := fun v hv => turnP_set hkx (by rw [if_pos (by simpa using hk1)]; exact hv)
    have hskip : turnS how (rd x (k : Int)) = rd x (k : Int) → turnRow how x f k = turnRow how x f (k + 1) := fun h => turnP_skip hkx (fun _ => h)
    have hlaw := or_law (hr k hkx)
    have hlen' : (turnRow how x f k).length = x.length := hlen
    have hbig := @lett_turn how (rd x (k : Int))
    generalize turnRow how x f k = X at *
    have hgv : (i32s X)[((k : Int)).toNat]? = some (.int .i32 (rd x (k : Int))) := by rw [← hrd]; exact i32s_get (by omega) (by omega)
    generalize rd x (k : Int) = r at *
    repeat first | refine W_seq ?_ | refine W_skip ?_ | refine W_block ?_ | refine W_region (by rfl) ?_ | refine W_pure TOk (by rfl) (by first | trivial | (simp only [okI, and_true, true_and, and_self] <;> omega) | omega) ?_
    refine W_index TOk (by rfl) (by rfl) (by rfl) (by first | exact es48 | exact es22 | exact es136 | exact es150 | exact es223 | exact es29 | exact es132 | exact es207) (by omega) (by omega) (fun w1 hw => (hw.hp.cells 0 rfl).isSome (by rw [i32s_length]; omega)) ?_
    refine W_load TOk (by rfl) (by rfl) (by rfl) (fun w1 hw => (hw.hp.cells 0 rfl).elem1 hgv) ?_
    repeat first | refine W_seq ?_ | refine W_block ?_ | refine W_region (by rfl) ?_ | refine W_opsnil ?_ | refine W_pure TOk (by rfl) (by first | trivial | (simp only [okI, and_true, true_and, and_self] <;> omega) | omega) ?_
    rw [show IntKind.i32.wrap (BitVec.ofInt IntKind.i32.bits r ||| BitVec.ofInt IntKind.i32.bits 32).toNat = orV r from rfl]
    obtain ⟨hL, hN⟩ := hlaw
    have hfw : 122 < orV r ∨ orV r < 97 ∨ 122 < r → turnS how r = r := fun h => hbig (fun hl => by
      have h1 := (hL hl).1
      have h2 := hl
      unfold lett at h2
      split at h1 <;> omega)
    have hlt2 : ¬ (122 < orV r ∨ orV r < 97 ∨ 122 < r) → lett r := fun h => Decidable.byContradiction fun hn => h (by have := hN hn; omega)
    refine W_dec 32 (by rfl) (fun h1 => ?_) (fun h1 => ?_)
    · have h1 := of_decide_eq_true h1
      repeat first | refine W_skip ?_ | refine W_blk ?_ | refine W_region (by rfl) ?_ | refine W_opsnil ?_ | refine W_pure TOk (by rfl) (by first | trivial | (simp only [okI, and_true, true_and, and_self] <;> omega) | omega) ?_ | refine W_off (by rfl) (by rfl) (by rfl) (by rfl) (by rfl) ?_ | refine W_cond_t (by rfl) ?_
      exact W_inv (k + 1) ⟨by omega, by omega⟩ (by omega) ⟨rfl, rfl, rfl, rfl, trivial⟩ (by rw [← hskip (hfw (.inr (.inl h1)))]; exact Ent.refl _)
    · have h1 := of_decide_eq_false h1
      repeat first | refine W_pure TOk (by rfl) (by first | trivial | (simp only [okI, and_true, true_and, and_self] <;> omega) | omega) ?_ | refine W_on (by rfl) (by rfl) (by rfl) ?_
      refine W_dec 36 (by rfl) (fun h2 => ?_) (fun h2 => ?_)
      · have h2 := of_decide_eq_true h2
        repeat first | refine W_skip ?_ | refine W_blk ?_ | refine W_region (by rfl) ?_ | refine W_opsnil ?_ | refine W_pure TOk (by rfl) (by first | trivial | (simp only [okI, and_true, true_and, and_self] <;> omega) | omega) ?_ | refine W_off (by rfl) (by rfl) (by rfl) (by rfl) (by rfl) ?_ | refine W_cond_t (by rfl) ?_
        exact W_inv (k + 1) ⟨by omega, by omega⟩ (by omega) ⟨rfl, rfl, rfl, rfl, trivial⟩ (by rw [← hskip (hfw (.inl h2))]; exact Ent.refl _)
      · have h2 := of_decide_eq_false h2
        repeat first | refine W_pure TOk (by rfl) (by first | trivial | (simp only [okI, and_true, true_and, and_self] <;> omega) | omega) ?_ | refine W_on (by rfl) (by rfl) (by rfl) ?_
        refine W_index TOk (by rfl) (by rfl) (by rfl) (by first | exact es48 | exact es22 | exact es136 | exact es150 | exact es223 | exact es29 | exact es132 | exact es207) (by omega) (by omega) (fun w1 hw => (hw.hp.cells 0 rfl).isSome (by rw [i32s_length]; omega)) ?_
        repeat first | refine W_on (by rfl) (by rfl) (by rfl) ?_
        refine W_load TOk (by rfl) (by rfl) (by rfl) (fun w1 hw => (hw.hp.cells 0 rfl).elem1 hgv) ?_
        repeat first | refine W_opsnil ?_ | refine W_pure TOk (by rfl) (by first | trivial | (simp only [okI, and_true, true_and, and_self] <;> omega) | omega) ?_ | refine W_on (by rfl) (by rfl) (by rfl) ?_
        refine W_cond_d (by rfl) (fun h3 => ?_) (fun h3 => ?_)
        · repeat first | refine W_skip ?_ | refine W_blk ?_ | refine W_region (by rfl) ?_ | refine W_opsnil ?_ | refine W_pure TOk (by rfl) (by first | trivial | (simp only [okI, and_true, true_and, and_self] <;> omega) | omega) ?_
          exact W_inv (k + 1) ⟨by omega, by omega⟩ (by omega) ⟨rfl, rfl, rfl, rfl, trivial⟩ (by rw [← hskip (hfw (.inr (.inr h3)))]; exact Ent.refl _)
        · have hl := hlt2 (by omega)
          obtain ⟨g1, g2, g3⟩ := hL hl
          have hl2 := hl
          unfold lett at hl2
          repeat first | refine W_seq ?_ | refine W_region (by rfl) ?_
          refine W_load TOk (by rfl) (by rfl) (by rfl) (fun w1 hw => ⟨_, rfl, (hw.below.cell (World.block_lt_of_cell? w _ hcell)).trans hcell⟩) ?_
          repeat first | refine W_opsnil ?_ | refine W_pure TOk (by rfl) (by first | trivial | (simp only [okI, and_true, true_and, and_self] <;> omega) | omega) ?_
          refine W_cond_d (by rfl) (fun h4 => ?_) (fun h4 => ?_)
          · repeat first | refine W_region (by rfl) ?_ | refine W_pure TOk (by rfl) (by first | trivial | (simp only [okI, and_true, true_and, and_self] <;> omega) | omega) ?_
            refine W_index TOk (by rfl) (by rfl) (by rfl) (by first | exact es48 | exact es22 | exact es136 | exact es150 | exact es223 | exact es29 | exact es132 | exact es207) (by omega) (by omega) (fun w1 hw => (hw.hp.cells 0 rfl).isSome (by rw [i32s_length]; omega)) ?_
            refine W_store_own 0 TOk (by rfl) ptr_at (by rfl) (by rfl) (by rfl) (by simp only [vcells, List.length_cons, List.length_nil]; omega) (by omega) (by rfl) ?_
            simp only [Int.toNat_natCast, Nat.mul_one, vcells, i32s_put, setL]
            repeat first | refine W_blk ?_ | refine W_region (by rfl) ?_ | refine W_opsnil ?_ | refine W_pure TOk (by rfl) (by first | trivial | (simp only [okI, and_true, true_and, and_self] <;> omega) | omega) ?_
            exact W_inv (k + 1) ⟨by omega, by omega⟩ (by omega) ⟨rfl, rfl, rfl, rfl, trivial⟩ (by rw [← hset (orV r) (by rw [g1]; unfold turnS; split <;> split <;> (try split) <;> omega)]; exact Ent.refl _)
          · repeat first | refine W_seq ?_ | refine W_region (by rfl) ?_
            refine W_load TOk (by rfl) (by rfl) (by rfl) (fun w1 hw => ⟨_, rfl, (hw.below.cell (World.block_lt_of_cell? w _ hcell)).trans hcell⟩) ?_
            repeat first | refine W_opsnil ?_ | refine W_pure TOk (by rfl) (by first | trivial | (simp only [okI, and_true, true_and, and_self] <;> omega) | omega) ?_
            refine W_cond_d (by rfl) (fun h5 => ?_) (fun h5 => ?_)
            · repeat first | refine W_region (by rfl) ?_ | refine W_pure TOk (by rfl) (by first | trivial | (simp only [okI, and_true, true_and, and_self] <;> omega) | omega) ?_
              rw [show IntKind.i32.wrap (BitVec.ofInt IntKind.i32.bits (orV r) &&& ~~~ BitVec.ofInt IntKind.i32.bits 32).toNat = anV (orV r) from rfl]
              refine W_index TOk (by rfl) (by rfl) (by rfl) (by first | exact es48 | exact es22 | exact es136 | exact es150 | exact es223 | exact es29 | exact es132 | exact es207) (by omega) (by omega) (fun w1 hw => (hw.hp.cells 0 rfl).isSome (by rw [i32s_length]; omega)) ?_
              refine W_store_own 0 TOk (by rfl) ptr_at (by rfl) (by rfl) (by rfl) (by simp only [vcells, List.length_cons, List.length_nil]; omega) (by omega) (by rfl) ?_
              simp only [Int.toNat_natCast, Nat.mul_one, vcells, i32s_put, setL]
              repeat first | refine W_blk ?_ | refine W_region (by rfl) ?_ | refine W_opsnil ?_ | refine W_pure TOk (by rfl) (by first | trivial | (simp only [okI, and_true, true_and, and_self] <;> omega) | omega) ?_
              exact W_inv (k + 1) ⟨by omega, by omega⟩ (by omega) ⟨rfl, rfl, rfl, rfl, trivial⟩ (by rw [← hset (anV (orV r)) (by rw [g2, g1]; unfold turnS; split <;> split <;> (try split) <;> omega)]; exact Ent.refl _)
            · repeat first | refine W_region (by rfl) ?_ | refine W_pure TOk (by rfl) (by first | trivial | (simp only [okI, and_true, true_and, and_self] <;> omega) | omega) ?_
              refine W_index TOk (by rfl) (by rfl) (by rfl) (by first | exact es48 | exact es22 | exact es136 | exact es150 | exact es223 | exact es29 | exact es132 | exact es207) (by omega) (by omega) (fun w1 hw => (hw.hp.cells 0 rfl).isSome (by rw [i32s_length]; omega)) ?_
              refine W_load TOk (by rfl) (by rfl) (by rfl) (fun w1 hw => (hw.hp.cells 0 rfl).elem1 hgv) ?_
              repeat first | refine W_pure TOk (by rfl) (by first | trivial | (simp only [okI, and_true, true_and, and_self] <;> omega) | omega) ?_
              rw [show IntKind.i32.wrap (BitVec.ofInt IntKind.i32.bits r ^^^ BitVec.ofInt IntKind.i32.bits 32).toNat = xoV r from rfl]
              refine W_index TOk (by rfl) (by rfl) (by rfl) (by first | exact es48 | exact es22 | exact es136 | exact es150 | exact es223 | exact es29 | exact es132 | exact es207) (by omega) (by omega) (fun w1 hw => (hw.hp.cells 0 rfl).isSome (by rw [i32s_length]; omega)) ?_
              refine W_store_own 0 TOk (by rfl) ptr_at (by rfl) (by rfl) (by rfl) (by simp only [vcells, List.length_cons, List.length_nil]; omega) (by omega) (by rfl) ?_
              simp only [Int.toNat_natCast, Nat.mul_one, vcells, i32s_put, setL]
              repeat first | refine W_blk ?_ | refine W_region (by rfl) ?_ | refine W_opsnil ?_ | refine W_pure TOk (by rfl) (by first | trivial | (simp only [okI, and_true, true_and, and_self] <;> omega) | omega) ?_
              exact W_inv (k + 1) ⟨by omega, by omega⟩ (by omega) ⟨rfl, rfl, rfl, rfl, trivial⟩ (by rw [← hset (xoV r) (by rw [g3]; unfold turnS; split <;> split <;> (try split) <;> omega)]; exact Ent.refl _)
  · have e : k = t := by omega
    subst e
    repeat first | refine W_seq ?_ | refine W_exit (by rfl) ?_ | refine W_region (by rfl) ?_ | refine W_opsnil ?_ | refine W_pure TOk (by rfl) (by first | trivial | (simp only [okI, and_true, true_and, and_self] <;> omega) | omega) ?_
    refine W_retF (vs := [_]) ⟨rfl, trivial⟩ (Ent.refl _) ⟨A1, c1, ?_, ?_⟩
    · rw [turnRow, turnP_len]; rfl
    · rw [turnRow, turnP_len]
end Go.Proofs.Ytdfibmbedjpcgaa
