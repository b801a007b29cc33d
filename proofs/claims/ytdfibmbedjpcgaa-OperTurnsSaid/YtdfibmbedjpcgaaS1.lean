/- Functions that turn what is there: rules; the table's cut, Delete, Insert. -/
import Derived.Test.YtdfibmbedjpcgaaR9
set_option linter.unusedVariables false
set_option linter.unusedSimpArgs false
namespace Go.Proofs.Ytdfibmbedjpcgaa
open Go Go.RowKit Eng Ls

/-! ### Functions that turn what is there -/
def TR (B : Nat) (w0 : World) (p : Value → List Ast → Prop) : Ending → World → Prop := fun e w' => ∃ v M, e = .returned v ∧ St B w0 w' M ∧ p v M
/-- What a function's call comes to that turns blocks from B on. -/
def Turn (P : Program) (f : FuncId) (vs : List Value) (B : Nat) (w : World) (p : Value → List Ast → Prop) : Prop := Calls P f vs.toArray w (TR B w p)
theorem Turn.mono {P : Program} {f : FuncId} {vs : List Value} {B : Nat} {w : World} {p q : Value → List Ast → Prop} (h : Turn P f vs B w p) (hq : ∀ v M, p v M → q v M) : Turn P f vs B w q :=
  Calls.mono h fun _ _ ⟨v, M, he, hs, hp⟩ => ⟨v, M, he, hs, hq v M hp⟩
theorem W_turn {X : Cx} {k : List It} {F : Fr} {L : List Ast} {all : Array Oper} {d : Nat} {f : FuncId} {args : Array Operand} {tys : Array TypeId} {ty : TypeId} {pos : String} {af : Array Edge} {l : List Oper} {vs : List Value}
    (p : Value → List Ast → Prop)
    (hd : Nat.blt d X.n = true) (hcall : ∀ args w, (callFunc f args).run X.P w = .ok (.enter f args) w) (hargs : evs F args.toList = some vs)
    (hc : ∀ w, St X.B X.w0 w L → Turn X.P f vs X.B w p)
    (h : ∀ v M, p v M → W X (.ops all l :: k) ((d, v) :: F) M) :
    W X (.ops all (⟨some d, .call { callee := .value (.func f), args := args, argTypes := tys }, ty, pos, af, none⟩ :: l) :: k) F L :=
  W_callG hd hcall hargs fun w hw => Calls.mono (hc w hw) fun _ _ ⟨v, M, he, hs, hp⟩ => ⟨v, M, he, ⟨hw.below.trans hs.below, hs.le, hs.hp⟩, h v M hp⟩
theorem W_retT {P : Program} {fn : Func} {n B : Nat} {w0 : World} {k : List It} {F : Fr} {L : List Ast} {p : Value → List Ast → Prop} {vs : List Value} {M : List Ast} (hv : rvsOk (cx P fn n B w0 (TR B w0 p)) F L fn.results.toList vs) (e : Ent L M) (hp : p (mkR vs) M) :
    W (cx P fn n B w0 (TR B w0 p)) (.code .ret :: k) F L := W_retR hv fun _ hw => ⟨_, M, rfl, hw.ent e, hp⟩
theorem W_endT {P : Program} {fn : Func} {n B : Nat} {w0 : World} {F : Fr} {L : List Ast} {p : Value → List Ast → Prop} {vs : List Value} {M : List Ast} (hv : rvsOk (cx P fn n B w0 (TR B w0 p)) F L fn.results.toList vs) (e : Ent L M) (hp : p (mkR vs) M) :
    W (cx P fn n B w0 (TR B w0 p)) [] F L := W_endR hv fun _ hw => ⟨_, M, rfl, hw.ent e, hp⟩
theorem enterT {P : Program} {f : FuncId} {fn : Func} {c : Code} {args : List Value} {w0 : World} {p : Value → List Ast → Prop} {n B : Nat} {F : Fr} {L : List Ast}
    (hB : B ≤ w0.heap.size) (hL : Hp B w0 L)
    (hf : P.funcs[f]? = some fn) (hb : fn.body = some c) (hn : fn.ntmps = n) (hle : Nat.ble args.length n = true) (hF : (List.range args.length).zip args = F)
    (h : W (cx P fn n B w0 (TR B w0 p)) [.code c] F L) : Turn P f args B w0 p :=
  enter hf hb hn hle hF hB hL h
/-- Cells that stay as they are while what is not in L is turned. -/
def Reads (B : Nat) (w : World) (L : List Ast) (A : Option Addr) (cs : List Value) : Prop := ∀ w', Below B w w' → Hp B w' L → Cells w' A cs
theorem Reads.own {B : Nat} {w : World} {L : List Ast} {e : TypeId} {size n c : Nat} {A : Option Addr} {cs : List Value} (i : Nat) (h : L[i]? = some (Eng.own e size A n c cs)) : Reads B w L A cs := fun w' _ hp => hp.cells i h
theorem Reads.below {B : Nat} {w : World} {L : List Ast} {A : Option Addr} {cs : List Value} (h : ∀ w', Below B w w' → Cells w' A cs) : Reads B w L A cs := fun w' hb _ => h w' hb
theorem Reads.nil {B : Nat} {w : World} {L : List Ast} {A : Option Addr} : Reads B w L A [] := fun w' _ _ => Cells.nil _ _

/-! ### The table's cut -/
def cutR : List (Nat × Nat) → Nat → List (Nat × Nat) × Nat
  | [], _ => ([], 0)
  | (o, n) :: R, a => if a = 0 then ((o, n) :: R, 0) else if a < n then ((o, a) :: (o + a, n - a) :: R, 1) else ((o, n) :: (cutR R (a - n)).1, (cutR R (a - n)).2 + 1)
theorem flatS_mono {S l : List Int} : ∀ {R : List (Nat × Nat)}, (∀ p ∈ R, 0 < p.2 ∧ p.1 + p.2 ≤ S.length) → flatS (S ++ l) R = flatS S R
  | [], _ => rfl
  | p :: R, h => by
    have h1 := h p (List.mem_cons_self ..)
    rw [flatS_cons, flatS_cons, flatS_mono (fun q hq => h q (List.mem_cons_of_mem _ hq))]
    congr 1
    rw [List.drop_append_of_le_length (by omega), List.take_append_of_le_length (by rw [List.length_drop]; omega)]
theorem cutR_all {S : List Int} : ∀ {R : List (Nat × Nat)} (a : Nat), (∀ p ∈ R, 0 < p.2 ∧ p.1 + p.2 ≤ S.length) → a ≤ (flatS S R).length →
    flatS S (cutR R a).1 = flatS S R ∧ flatS S ((cutR R a).1.take (cutR R a).2) = (flatS S R).take a ∧ (∀ p ∈ (cutR R a).1, 0 < p.2 ∧ p.1 + p.2 ≤ S.length) ∧ (cutR R a).2 ≤ (cutR R a).1.length
  | [], a, h, ha => by simp [cutR, flatS]
  | (o, n) :: R, a, h, ha => by
    have h1 := h (o, n) (List.mem_cons_self ..)
    have hR : ∀ p ∈ R, 0 < p.2 ∧ p.1 + p.2 ≤ S.length := fun q hq => h q (List.mem_cons_of_mem _ hq)
    have hpl := piece_len (S := S) h1.2
    rw [flatS_cons, List.length_append, hpl] at ha
    simp only at ha hpl h1
    simp only [cutR]
    split
    · rename_i h0; subst h0
      refine ⟨rfl, by simp [flatS], h, by simp⟩
    · rename_i h0
      split
      · rename_i hlt
        refine ⟨?_, ?_, ?_, by simp⟩
        · rw [flatS_cons, flatS_cons, flatS_cons, ← List.append_assoc]
          congr 1
          simp only
          rw [← List.drop_drop, ← List.take_add]
          congr 1
          omega
        · simp only [List.take_succ_cons, List.take_zero]
          rw [flatS_cons, flatS_cons]
          simp only
          rw [List.take_append_of_le_length (by omega), List.take_take, Nat.min_eq_left (by omega)]
          simp [flatS]
        · intro p hp
          rcases List.mem_cons.1 hp with rfl | hp
          · exact ⟨by show 0 < a; omega, by show o + a ≤ _; omega⟩
          · rcases List.mem_cons.1 hp with rfl | hp
            · exact ⟨by show 0 < n - a; omega, by show o + a + (n - a) ≤ _; omega⟩
            · exact hR p hp
      · rename_i hge
        obtain ⟨i1, i2, i3, i4⟩ := cutR_all (R := R) (a - n) hR (by omega)
        refine ⟨by rw [flatS_cons, flatS_cons, i1], ?_, ?_, by simp; omega⟩
        · rw [List.take_succ_cons, flatS_cons, flatS_cons, i2, List.take_append, hpl, List.take_of_length_le (show ((S.drop o).take n).length ≤ a by rw [hpl]; omega)]
        · intro p hp
          rcases List.mem_cons.1 hp with rfl | hp
          · exact h1
          · exact i3 p hp
theorem cutR_two : ∀ {R : List (Nat × Nat)} (a b : Nat), a ≤ b → (cutR (cutR R a).1 b).1.take (cutR R a).2 = (cutR R a).1.take (cutR R a).2 ∧ (cutR R a).2 ≤ (cutR (cutR R a).1 b).2
  | [], a, b, h => by simp [cutR]
  | (o, n) :: R, a, b, h => by
    simp only [cutR]
    by_cases h0 : a = 0
    · rw [if_pos h0]; simp
    · rw [if_neg h0]
      by_cases hlt : a < n
      · rw [if_pos hlt]
        simp only [cutR]
        rw [if_neg (by omega : ¬ b = 0), if_neg (by omega : ¬ b < a)]
        simp
      · rw [if_neg hlt]
        simp only [cutR]
        have hb0 : ¬ b = 0 := by omega
        rw [if_neg hb0, if_neg (by omega : ¬ b < n)]
        obtain ⟨i1, i2⟩ := cutR_two (R := R) (a - n) (b - n) (by omega)
        refine ⟨?_, ?_⟩
        · simp only [List.take_succ_cons, i1]
        · show (cutR R (a - n)).2 + 1 ≤ (cutR (cutR R (a - n)).1 (b - n)).2 + 1
          omega

attribute [local irreducible] Eng.W
theorem drop_cons {α : Type} {R : List α} {k : Nat} {p : α} (h : R[k]? = some p) : R.drop k = p :: R.drop (k + 1) := by
  have hk := (List.getElem?_eq_some_iff.1 h).1
  rw [List.drop_eq_getElem_cons hk]
  congr 1
  exact (List.getElem?_eq_some_iff.1 h).2
theorem piece_le {S x : List Int} {R : List (Nat × Nat)} {m : Nat} (h : tabOk S R x m) {k : Nat} {p : Nat × Nat} (hk : R[k]? = some p) : p.2 ≤ 65536 ∧ p.1 + p.2 ≤ S.length ∧ 0 < p.2 := by
  have h1 := h.pos _ (List.mem_of_getElem? hk)
  have h2 := h.flat
  rw [← List.take_append_drop k R, flatS_app, drop_cons hk, flatS_cons] at h2
  have h3 := congrArg List.length h2
  rw [List.length_append, List.length_append, piece_len h1.2] at h3
  have := h.big
  exact ⟨by omega, h1.2, h1.1⟩
theorem spanC_one (R : List (Nat × Nat)) : ∀ u ∈ spanC R, u.oneCell' = true := by
  induction R with
  | nil => intro u hu; simp [spanC] at hu
  | cons p R ih =>
    intro u hu
    simp only [spanC, List.mem_cons] at hu
    rcases hu with rfl | rfl | hu
    · rfl
    · rfl
    · exact ih u hu
theorem span_take {w : World} {A : Option Addr} {R : List (Nat × Nat)} (h : Cells w A (spanC R)) (k c : Nat) (hk : k ≤ c) : Cells w (cutA A 0 c 2) (spanC (R.take k)) := by
  have := h.cut 0 k c 2 hk
  rwa [Nat.zero_mul, List.drop_zero, Nat.sub_zero, spanC_take] at this
theorem span_drop {w : World} {A : Option Addr} {R : List (Nat × Nat)} (h : Cells w A (spanC R)) (k c : Nat) (hk : R.length ≤ c) : Cells w (cutA A k c 2) (spanC (R.drop k)) := by
  have := h.cut k R.length c 2 hk
  rw [spanC_drop, List.take_of_length_le] at this
  · exact this
  · rw [spanC_length, List.length_drop]; exact Nat.le_refl _
def tabO (b : Nat) (x S : List Int) (sA : Option Addr) (sc : Nat) (R : List (Nat × Nat)) (rA : Option Addr) (rc : Nat) (Lf : List Ast) : List Ast :=
  box b 226 [.slice sA S.length sc, .slice rA R.length rc, .slice none 0 0, .int .i64 (x.length : Nat)] :: own 21 1 sA S.length sc (i32s S) :: own 228 2 rA R.length rc (spanC R) :: Lf
set_option maxHeartbeats 4000000 in
theorem cut_c (B : Nat) (w : World) (b : Nat) (x S : List Int) (sA : Option Addr) (sc : Nat) (R : List (Nat × Nat)) (rA : Option Addr) (rc m : Nat) (a0 : Nat) (Lf : List Ast) (hB : B ≤ w.heap.size) (hL : Hp B w (tabO b x S sA sc R rA rc Lf)) (hok : tabOk S R x m) (ha : a0 ≤ x.length) (hm : m ≤ 1099511627776) :
    Turn Try.prog 209 [.pointer (some ⟨b, 0, none⟩), .int .i64 (a0 : Nat)] B w (fun v M => ∃ rA' rc', v = .int .i64 ((cutR R a0).2 : Nat) ∧ M = tabO b x S sA sc (cutR R a0).1 rA' rc' Lf) := by
  have hS := hok.le
  have hrl := rows_le hok.pos
  have hbig := hok.big
  rw [hok.flat] at hrl
  unfold tabO at hL
  refine enterT hB hL Try.func209 rfl Try.ntmps209 rfl rfl ?_
  refine W_ownlen 2 (by rfl) (fun hq1 hq2 hq3 => ?_)
  unfold maxLen at hq3
  repeat first
    | refine W_seq ?_
    | refine W_skip ?_
    | refine W_block ?_
    | refine W_blk ?_
    | refine W_exit (by rfl) ?_
    | refine W_region (by rfl) ?_
    | refine W_opsnil ?_
    | refine W_pure TOk (by rfl) (by first | trivial | (simp only [okI, and_true, true_and, and_self] <;> omega)) ?_
    | refine W_on (by rfl) (by rfl) (by rfl) ?_
    | refine W_off (by rfl) (by rfl) (by rfl) (by rfl) (by rfl) ?_
    | refine W_offU (by rfl) (by rfl) (by rfl) (by rfl) ?_
    | refine W_cond_t (by rfl) ?_
    | refine W_cond_f (by rfl) ?_
    | refine W_load_box 0 TOk (by rfl) (by rfl) (by rfl) (by rfl) (by rfl) ?_
    | refine W_load_boxN 0 TOk (by rfl) (by rfl) (by rfl) (by rfl) (by rfl) ?_
    | (refine W_store_box 0 TOk (by rfl) (by rfl) (by rfl) (by rfl) (by rfl) (by rfl) ?_; dsimp only [setL, putL, vcells])
  refine W_loop (ι := Nat × Nat) (fun q => [(0, .pointer (some ⟨b, 0, none⟩)), (11, .slice rA R.length rc), (12, .int .i64 (R.length : Nat)), (13, .int .i64 (q.1 : Nat)), (1, .int .i64 (q.2 : Nat))]) (fun _ => box b 226 [.slice sA S.length sc, .slice rA R.length rc, .slice none 0 0, .int .i64 (x.length : Nat)] :: own 21 1 sA S.length sc (i32s S) :: own 228 2 rA R.length rc (spanC R) :: Lf)
    (fun q => q.1 ≤ R.length ∧ q.2 ≤ a0 ∧ cutR R a0 = (R.take q.1 ++ (cutR (R.drop q.1) q.2).1, (cutR (R.drop q.1) q.2).2 + q.1)) (fun q => R.length - q.1) (0, a0) ⟨by dsimp only; omega, by dsimp only; omega, by simp⟩ ⟨rfl, rfl, rfl, rfl, rfl, trivial⟩ (Ent.refl _) ?_
  rintro ⟨k, a⟩ ⟨hk, hak, he⟩
  dsimp only at hk hak he ⊢
  repeat first
    | refine W_seq ?_
    | refine W_skip ?_
    | refine W_block ?_
    | refine W_blk ?_
    | refine W_exit (by rfl) ?_
    | refine W_region (by rfl) ?_
    | refine W_opsnil ?_
    | refine W_pure TOk (by rfl) (by first | trivial | (simp only [okI, and_true, true_and, and_self] <;> omega)) ?_
    | refine W_on (by rfl) (by rfl) (by rfl) ?_
    | refine W_off (by rfl) (by rfl) (by rfl) (by rfl) (by rfl) ?_
    | refine W_offU (by rfl) (by rfl) (by rfl) (by rfl) ?_
    | refine W_cond_t (by rfl) ?_
    | refine W_cond_f (by rfl) ?_
  refine W_cond_d (by rfl) (fun hlt => ?_) (fun hge => ?_)
  · obtain ⟨⟨o, len⟩, hp⟩ : ∃ p, R[k]? = some p := ⟨R[k]'(by omega), List.getElem?_eq_getElem (by omega)⟩
    have hpl := piece_le hok hp
    dsimp only at hpl
    have hdk := drop_cons hp
    rw [hdk] at he
    simp only [cutR] at he
    repeat first
      | refine W_seq ?_
      | refine W_skip ?_
      | refine W_block ?_
      | refine W_blk ?_
      | refine W_exit (by rfl) ?_
      | refine W_region (by rfl) ?_
      | refine W_opsnil ?_
      | refine W_pure TOk (by rfl) (by first | trivial | (simp only [okI, and_true, true_and, and_self] <;> omega)) ?_
      | refine W_on (by rfl) (by rfl) (by rfl) ?_
      | refine W_off (by rfl) (by rfl) (by rfl) (by rfl) (by rfl) ?_
      | refine W_offU (by rfl) (by rfl) (by rfl) (by rfl) ?_
      | refine W_cond_t (by rfl) ?_
      | refine W_cond_f (by rfl) ?_
    refine W_index TOk (by rfl) (by rfl) (by rfl) (by first | exact es48 | exact es22 | exact es136 | exact es150 | exact es223 | exact es29 | exact es132 | exact es207) (by omega) (by omega) (fun w1 hw => (hw.hp.cells 2 rfl).isSome (by rw [spanC_length]; omega)) ?_
    refine W_loadN TOk (cs := [_, _]) (by rfl) (by rfl) (by rfl) (fun w1 hw => span_cells (hw.hp.cells 2 rfl) hp (Below.refl _ _)) ?_
    dsimp only
    refine W_alloc (cs := [_, _]) TOk (by rfl) (by rfl) (fun b2 => ?_)
    repeat first
      | refine W_seq ?_
      | refine W_skip ?_
      | refine W_block ?_
      | refine W_blk ?_
      | refine W_exit (by rfl) ?_
      | refine W_region (by rfl) ?_
      | refine W_opsnil ?_
      | refine W_pure TOk (by rfl) (by first | trivial | (simp only [okI, and_true, true_and, and_self] <;> omega)) ?_
      | refine W_on (by rfl) (by rfl) (by rfl) ?_
      | refine W_off (by rfl) (by rfl) (by rfl) (by rfl) (by rfl) ?_
      | refine W_offU (by rfl) (by rfl) (by rfl) (by rfl) ?_
      | refine W_cond_t (by rfl) ?_
      | refine W_cond_f (by rfl) ?_
      | refine W_load_box 0 TOk (by rfl) (by rfl) (by rfl) (by rfl) (by rfl) ?_
      | refine W_load_boxN 0 TOk (by rfl) (by rfl) (by rfl) (by rfl) (by rfl) ?_
      | (refine W_store_box 0 TOk (by rfl) (by rfl) (by rfl) (by rfl) (by rfl) (by rfl) ?_; dsimp only [setL, putL, vcells])
    refine W_cond_d (by rfl) (fun h0 => ?_) (fun h0 => ?_)
    · repeat first
        | refine W_seq ?_
        | refine W_skip ?_
        | refine W_block ?_
        | refine W_blk ?_
        | refine W_exit (by rfl) ?_
        | refine W_region (by rfl) ?_
        | refine W_opsnil ?_
        | refine W_pure TOk (by rfl) (by first | trivial | (simp only [okI, and_true, true_and, and_self] <;> omega)) ?_
        | refine W_on (by rfl) (by rfl) (by rfl) ?_
        | refine W_off (by rfl) (by rfl) (by rfl) (by rfl) (by rfl) ?_
        | refine W_offU (by rfl) (by rfl) (by rfl) (by rfl) ?_
        | refine W_cond_t (by rfl) ?_
        | refine W_cond_f (by rfl) ?_
        | refine W_load_box 0 TOk (by rfl) (by rfl) (by rfl) (by rfl) (by rfl) ?_
        | refine W_load_boxN 0 TOk (by rfl) (by rfl) (by rfl) (by rfl) (by rfl) ?_
        | (refine W_store_box 0 TOk (by rfl) (by rfl) (by rfl) (by rfl) (by rfl) (by rfl) ?_; dsimp only [setL, putL, vcells])
      have e0 : a = 0 := by omega
      rw [if_pos e0] at he
      dsimp only at he
      rw [← hdk, List.take_append_drop, Nat.zero_add] at he
      refine W_retT (vs := [_]) ⟨rfl, trivial⟩ (Ent.drop1 _ _) ⟨rA, rc, by rw [he]; rfl, by rw [he]; rfl⟩
    · rw [if_neg (by omega)] at he
      repeat first
        | refine W_seq ?_
        | refine W_skip ?_
        | refine W_block ?_
        | refine W_blk ?_
        | refine W_exit (by rfl) ?_
        | refine W_region (by rfl) ?_
        | refine W_opsnil ?_
        | refine W_pure TOk (by rfl) (by first | trivial | (simp only [okI, and_true, true_and, and_self] <;> omega)) ?_
        | refine W_on (by rfl) (by rfl) (by rfl) ?_
        | refine W_off (by rfl) (by rfl) (by rfl) (by rfl) (by rfl) ?_
        | refine W_offU (by rfl) (by rfl) (by rfl) (by rfl) ?_
        | refine W_cond_t (by rfl) ?_
        | refine W_cond_f (by rfl) ?_
        | refine W_load_box 0 TOk (by rfl) (by rfl) (by rfl) (by rfl) (by rfl) ?_
        | refine W_load_boxN 0 TOk (by rfl) (by rfl) (by rfl) (by rfl) (by rfl) ?_
        | (refine W_store_box 0 TOk (by rfl) (by rfl) (by rfl) (by rfl) (by rfl) (by rfl) ?_; dsimp only [setL, putL, vcells])
      refine W_cond_d (by rfl) (fun hl => ?_) (fun hl => ?_)
      · rw [if_pos (by omega)] at he
        dsimp only at he
        repeat first
          | refine W_seq ?_
          | refine W_skip ?_
          | refine W_block ?_
          | refine W_blk ?_
          | refine W_exit (by rfl) ?_
          | refine W_region (by rfl) ?_
          | refine W_opsnil ?_
          | refine W_pure TOk (by rfl) (by first | trivial | (simp only [okI, and_true, true_and, and_self] <;> omega)) ?_
          | refine W_on (by rfl) (by rfl) (by rfl) ?_
          | refine W_off (by rfl) (by rfl) (by rfl) (by rfl) (by rfl) ?_
          | refine W_offU (by rfl) (by rfl) (by rfl) (by rfl) ?_
          | refine W_cond_t (by rfl) ?_
          | refine W_cond_f (by rfl) ?_
          | refine W_load_box 0 TOk (by rfl) (by rfl) (by rfl) (by rfl) (by rfl) ?_
          | refine W_load_box 1 TOk (by rfl) (by rfl) (by rfl) (by rfl) (by rfl) ?_
          | refine W_load_boxN 0 TOk (by rfl) (by rfl) (by rfl) (by rfl) (by rfl) ?_
          | refine W_load_boxN 1 TOk (by rfl) (by rfl) (by rfl) (by rfl) (by rfl) ?_
          | (refine W_store_box 0 TOk (by rfl) (by rfl) (by rfl) (by rfl) (by rfl) (by rfl) ?_; dsimp only [setL, putL, vcells])
          | (refine W_store_box 1 TOk (by rfl) (by rfl) (by rfl) (by rfl) (by rfl) (by rfl) ?_; dsimp only [setL, putL, vcells])
        refine W_make TOk (by rfl) (by rfl) (by rfl) sl223 (by omega) (by omega) (by omega) (by omega) (fun g => ?_)
        simp only [Int.toNat_natCast, Int.toNat_zero, List.replicate_zero, List.flatten_nil]
        repeat first
          | refine W_seq ?_
          | refine W_skip ?_
          | refine W_block ?_
          | refine W_blk ?_
          | refine W_exit (by rfl) ?_
          | refine W_region (by rfl) ?_
          | refine W_opsnil ?_
          | refine W_pure TOk (by rfl) (by first | trivial | (simp only [okI, and_true, true_and, and_self] <;> omega)) ?_
          | refine W_on (by rfl) (by rfl) (by rfl) ?_
          | refine W_off (by rfl) (by rfl) (by rfl) (by rfl) (by rfl) ?_
          | refine W_offU (by rfl) (by rfl) (by rfl) (by rfl) ?_
          | refine W_cond_t (by rfl) ?_
          | refine W_cond_f (by rfl) ?_
          | refine W_load_box 0 TOk (by rfl) (by rfl) (by rfl) (by rfl) (by rfl) ?_
          | refine W_load_box 1 TOk (by rfl) (by rfl) (by rfl) (by rfl) (by rfl) ?_
          | refine W_load_box 2 TOk (by rfl) (by rfl) (by rfl) (by rfl) (by rfl) ?_
          | refine W_load_boxN 0 TOk (by rfl) (by rfl) (by rfl) (by rfl) (by rfl) ?_
          | refine W_load_boxN 1 TOk (by rfl) (by rfl) (by rfl) (by rfl) (by rfl) ?_
          | refine W_load_boxN 2 TOk (by rfl) (by rfl) (by rfl) (by rfl) (by rfl) ?_
          | (refine W_store_box 0 TOk (by rfl) (by rfl) (by rfl) (by rfl) (by rfl) (by rfl) ?_; dsimp only [setL, putL, vcells])
          | (refine W_store_box 1 TOk (by rfl) (by rfl) (by rfl) (by rfl) (by rfl) (by rfl) ?_; dsimp only [setL, putL, vcells])
          | (refine W_store_box 2 TOk (by rfl) (by rfl) (by rfl) (by rfl) (by rfl) (by rfl) ?_; dsimp only [setL, putL, vcells])
        simp only [Int.toNat_natCast, Int.toNat_zero, Nat.sub_zero]
        have htk : (R.take k).length = k := by rw [List.length_take]; omega
        refine W_append_own 0 TOk (by rfl) (by rfl) (by rfl) sl223 (by rfl) (fun w1 hw => span_take (hw.hp.cells 4 rfl) k rc (by omega)) (by rw [spanC_length, htk]) (spanC_one _) (by unfold maxLen; omega) (by omega) (fun A1 c1 => ?_); dsimp only [setL]
        repeat first
          | refine W_seq ?_
          | refine W_skip ?_
          | refine W_block ?_
          | refine W_blk ?_
          | refine W_exit (by rfl) ?_
          | refine W_region (by rfl) ?_
          | refine W_opsnil ?_
          | refine W_pure TOk (by rfl) (by first | trivial | (simp only [okI, and_true, true_and, and_self] <;> omega)) ?_
          | refine W_on (by rfl) (by rfl) (by rfl) ?_
          | refine W_off (by rfl) (by rfl) (by rfl) (by rfl) (by rfl) ?_
          | refine W_offU (by rfl) (by rfl) (by rfl) (by rfl) ?_
          | refine W_cond_t (by rfl) ?_
          | refine W_cond_f (by rfl) ?_
          | refine W_load_box 0 TOk (by rfl) (by rfl) (by rfl) (by rfl) (by rfl) ?_
          | refine W_load_box 1 TOk (by rfl) (by rfl) (by rfl) (by rfl) (by rfl) ?_
          | refine W_load_box 2 TOk (by rfl) (by rfl) (by rfl) (by rfl) (by rfl) ?_
          | refine W_load_boxN 0 TOk (by rfl) (by rfl) (by rfl) (by rfl) (by rfl) ?_
          | refine W_load_boxN 1 TOk (by rfl) (by rfl) (by rfl) (by rfl) (by rfl) ?_
          | refine W_load_boxN 2 TOk (by rfl) (by rfl) (by rfl) (by rfl) (by rfl) ?_
          | (refine W_store_box 0 TOk (by rfl) (by rfl) (by rfl) (by rfl) (by rfl) (by rfl) ?_; dsimp only [setL, putL, vcells])
          | (refine W_store_box 1 TOk (by rfl) (by rfl) (by rfl) (by rfl) (by rfl) (by rfl) ?_; dsimp only [setL, putL, vcells])
          | (refine W_store_box 2 TOk (by rfl) (by rfl) (by rfl) (by rfl) (by rfl) (by rfl) ?_; dsimp only [setL, putL, vcells])
        have hsub : ((len : Int) - (a : Int)) = ((len - a : Nat) : Int) := by omega
        have hadd : ((o : Int) + (a : Int)) = ((o + a : Nat) : Int) := by omega
        rw [hsub, hadd]
        refine W_lit TOk (cs := [_, _, _, _]) (by rfl) sl223 (by rfl) (by rfl) (by rfl) (by rfl) (fun g1 => ?_)
        refine W_append_own 1 TOk (by rfl) (by rfl) (by rfl) sl223 (by rfl) (fun w1 hw => hw.hp.cells 0 rfl) (by rfl) (spanC_one [(o, a), (o + a, len - a)]) (by unfold maxLen; omega) (by omega) (fun A2 c2 => ?_); dsimp only [setL]
        repeat first
          | refine W_seq ?_
          | refine W_skip ?_
          | refine W_block ?_
          | refine W_blk ?_
          | refine W_exit (by rfl) ?_
          | refine W_region (by rfl) ?_
          | refine W_opsnil ?_
          | refine W_pure TOk (by rfl) (by first | trivial | (simp only [okI, and_true, true_and, and_self] <;> omega)) ?_
          | refine W_on (by rfl) (by rfl) (by rfl) ?_
          | refine W_off (by rfl) (by rfl) (by rfl) (by rfl) (by rfl) ?_
          | refine W_offU (by rfl) (by rfl) (by rfl) (by rfl) ?_
          | refine W_cond_t (by rfl) ?_
          | refine W_cond_f (by rfl) ?_
          | refine W_load_box 0 TOk (by rfl) (by rfl) (by rfl) (by rfl) (by rfl) ?_
          | refine W_load_box 1 TOk (by rfl) (by rfl) (by rfl) (by rfl) (by rfl) ?_
          | refine W_load_box 2 TOk (by rfl) (by rfl) (by rfl) (by rfl) (by rfl) ?_
          | refine W_load_box 3 TOk (by rfl) (by rfl) (by rfl) (by rfl) (by rfl) ?_
          | refine W_load_box 4 TOk (by rfl) (by rfl) (by rfl) (by rfl) (by rfl) ?_
          | refine W_load_boxN 0 TOk (by rfl) (by rfl) (by rfl) (by rfl) (by rfl) ?_
          | refine W_load_boxN 1 TOk (by rfl) (by rfl) (by rfl) (by rfl) (by rfl) ?_
          | refine W_load_boxN 2 TOk (by rfl) (by rfl) (by rfl) (by rfl) (by rfl) ?_
          | refine W_load_boxN 3 TOk (by rfl) (by rfl) (by rfl) (by rfl) (by rfl) ?_
          | refine W_load_boxN 4 TOk (by rfl) (by rfl) (by rfl) (by rfl) (by rfl) ?_
          | (refine W_store_box 0 TOk (by rfl) (by rfl) (by rfl) (by rfl) (by rfl) (by rfl) ?_; dsimp only [setL, putL, vcells])
          | (refine W_store_box 1 TOk (by rfl) (by rfl) (by rfl) (by rfl) (by rfl) (by rfl) ?_; dsimp only [setL, putL, vcells])
          | (refine W_store_box 2 TOk (by rfl) (by rfl) (by rfl) (by rfl) (by rfl) (by rfl) ?_; dsimp only [setL, putL, vcells])
          | (refine W_store_box 3 TOk (by rfl) (by rfl) (by rfl) (by rfl) (by rfl) (by rfl) ?_; dsimp only [setL, putL, vcells])
          | (refine W_store_box 4 TOk (by rfl) (by rfl) (by rfl) (by rfl) (by rfl) (by rfl) ?_; dsimp only [setL, putL, vcells])
        simp only [Int.toNat_natCast, Int.toNat_zero, Nat.sub_zero]
        have hk1 : ((k : Int) + 1).toNat = k + 1 := by omega
        rw [hk1]
        have hdl : (R.drop (k + 1)).length = R.length - (k + 1) := List.length_drop
        refine W_append_own 1 TOk (by rfl) (by rfl) (by rfl) sl223 (by rfl) (fun w1 hw => span_drop (hw.hp.cells 5 rfl) (k + 1) rc (by omega)) (by rw [spanC_length, hdl]) (spanC_one _) (by unfold maxLen; omega) (by omega) (fun A3 c3 => ?_); dsimp only [setL]
        repeat first
          | refine W_seq ?_
          | refine W_skip ?_
          | refine W_block ?_
          | refine W_blk ?_
          | refine W_exit (by rfl) ?_
          | refine W_region (by rfl) ?_
          | refine W_opsnil ?_
          | refine W_pure TOk (by rfl) (by first | trivial | (simp only [okI, and_true, true_and, and_self] <;> omega)) ?_
          | refine W_on (by rfl) (by rfl) (by rfl) ?_
          | refine W_off (by rfl) (by rfl) (by rfl) (by rfl) (by rfl) ?_
          | refine W_offU (by rfl) (by rfl) (by rfl) (by rfl) ?_
          | refine W_cond_t (by rfl) ?_
          | refine W_cond_f (by rfl) ?_
          | refine W_load_box 0 TOk (by rfl) (by rfl) (by rfl) (by rfl) (by rfl) ?_
          | refine W_load_box 1 TOk (by rfl) (by rfl) (by rfl) (by rfl) (by rfl) ?_
          | refine W_load_box 2 TOk (by rfl) (by rfl) (by rfl) (by rfl) (by rfl) ?_
          | refine W_load_box 3 TOk (by rfl) (by rfl) (by rfl) (by rfl) (by rfl) ?_
          | refine W_load_box 4 TOk (by rfl) (by rfl) (by rfl) (by rfl) (by rfl) ?_
          | refine W_load_boxN 0 TOk (by rfl) (by rfl) (by rfl) (by rfl) (by rfl) ?_
          | refine W_load_boxN 1 TOk (by rfl) (by rfl) (by rfl) (by rfl) (by rfl) ?_
          | refine W_load_boxN 2 TOk (by rfl) (by rfl) (by rfl) (by rfl) (by rfl) ?_
          | refine W_load_boxN 3 TOk (by rfl) (by rfl) (by rfl) (by rfl) (by rfl) ?_
          | refine W_load_boxN 4 TOk (by rfl) (by rfl) (by rfl) (by rfl) (by rfl) ?_
          | (refine W_store_box 0 TOk (by rfl) (by rfl) (by rfl) (by rfl) (by rfl) (by rfl) ?_; dsimp only [setL, putL, vcells])
          | (refine W_store_box 1 TOk (by rfl) (by rfl) (by rfl) (by rfl) (by rfl) (by rfl) ?_; dsimp only [setL, putL, vcells])
          | (refine W_store_box 2 TOk (by rfl) (by rfl) (by rfl) (by rfl) (by rfl) (by rfl) ?_; dsimp only [setL, putL, vcells])
          | (refine W_store_box 3 TOk (by rfl) (by rfl) (by rfl) (by rfl) (by rfl) (by rfl) ?_; dsimp only [setL, putL, vcells])
          | (refine W_store_box 4 TOk (by rfl) (by rfl) (by rfl) (by rfl) (by rfl) (by rfl) ?_; dsimp only [setL, putL, vcells])
        have hnl : (cutR R a0).1.length = 0 + k + 2 + (R.length - (k + 1)) := by rw [he]; simp; omega
        have hcs : spanC (cutR R a0).1 = [] ++ spanC (R.take k) ++ spanC [(o, a), (o + a, len - a)] ++ spanC (R.drop (k + 1)) := by
          rw [he, List.nil_append, ← spanC_app, ← spanC_app]; simp
        refine W_retT (vs := [_]) ⟨rfl, trivial⟩ (M := tabO b x S sA sc (cutR R a0).1 A3 c3 Lf) ?_ ⟨A3, c3, by rw [he]; show Value.int _ _ = Value.int _ _; congr 1; omega, rfl⟩
        unfold tabO
        rw [hcs, hnl]
        exact (Ent.drop1 _ _).trans ((Ent.pk 2 (by rfl)).trans (Ent.cons _ ((Ent.pk 2 (by rfl)).trans (Ent.cons _ ((Ent.snd _ _ _).trans (Ent.snd _ _ _))))))
      · rw [if_neg (by omega)] at he
        dsimp only at he
        repeat first
          | refine W_seq ?_
          | refine W_skip ?_
          | refine W_block ?_
          | refine W_blk ?_
          | refine W_exit (by rfl) ?_
          | refine W_region (by rfl) ?_
          | refine W_opsnil ?_
          | refine W_pure TOk (by rfl) (by first | trivial | (simp only [okI, and_true, true_and, and_self] <;> omega)) ?_
          | refine W_on (by rfl) (by rfl) (by rfl) ?_
          | refine W_off (by rfl) (by rfl) (by rfl) (by rfl) (by rfl) ?_
          | refine W_offU (by rfl) (by rfl) (by rfl) (by rfl) ?_
          | refine W_cond_t (by rfl) ?_
          | refine W_cond_f (by rfl) ?_
          | refine W_load_box 0 TOk (by rfl) (by rfl) (by rfl) (by rfl) (by rfl) ?_
          | refine W_load_box 1 TOk (by rfl) (by rfl) (by rfl) (by rfl) (by rfl) ?_
          | refine W_load_boxN 0 TOk (by rfl) (by rfl) (by rfl) (by rfl) (by rfl) ?_
          | refine W_load_boxN 1 TOk (by rfl) (by rfl) (by rfl) (by rfl) (by rfl) ?_
          | (refine W_store_box 0 TOk (by rfl) (by rfl) (by rfl) (by rfl) (by rfl) (by rfl) ?_; dsimp only [setL, putL, vcells])
          | (refine W_store_box 1 TOk (by rfl) (by rfl) (by rfl) (by rfl) (by rfl) (by rfl) ?_; dsimp only [setL, putL, vcells])
        have hsub : ((a : Int) - (len : Int)) = ((a - len : Nat) : Int) := by omega
        refine W_inv (k + 1, a - len) ⟨by dsimp only; omega, by dsimp only; omega, ?_⟩ (by dsimp only; omega) ⟨rfl, rfl, rfl, rfl, ?_, trivial⟩ (Ent.drop1 _ _)
        · dsimp only
          rw [he, take_snoc hp, List.append_assoc]
          simp; omega
        · rw [hsub]; rfl
  · repeat first
      | refine W_seq ?_
      | refine W_skip ?_
      | refine W_block ?_
      | refine W_blk ?_
      | refine W_exit (by rfl) ?_
      | refine W_region (by rfl) ?_
      | refine W_opsnil ?_
      | refine W_pure TOk (by rfl) (by first | trivial | (simp only [okI, and_true, true_and, and_self] <;> omega)) ?_
      | refine W_on (by rfl) (by rfl) (by rfl) ?_
      | refine W_off (by rfl) (by rfl) (by rfl) (by rfl) (by rfl) ?_
      | refine W_offU (by rfl) (by rfl) (by rfl) (by rfl) ?_
      | refine W_cond_t (by rfl) ?_
      | refine W_cond_f (by rfl) ?_
      | refine W_load_box 0 TOk (by rfl) (by rfl) (by rfl) (by rfl) (by rfl) ?_
      | refine W_load_box 1 TOk (by rfl) (by rfl) (by rfl) (by rfl) (by rfl) ?_
      | refine W_load_boxN 0 TOk (by rfl) (by rfl) (by rfl) (by rfl) (by rfl) ?_
      | refine W_load_boxN 1 TOk (by rfl) (by rfl) (by rfl) (by rfl) (by rfl) ?_
      | (refine W_store_box 0 TOk (by rfl) (by rfl) (by rfl) (by rfl) (by rfl) (by rfl) ?_; dsimp only [setL, putL, vcells])
      | (refine W_store_box 1 TOk (by rfl) (by rfl) (by rfl) (by rfl) (by rfl) (by rfl) ?_; dsimp only [setL, putL, vcells])
    have ek : k = R.length := by omega
    subst ek
    rw [List.drop_length, List.take_length] at he
    simp only [cutR, List.append_nil, Nat.zero_add] at he
    refine W_retT (vs := [_]) ⟨rfl, trivial⟩ (Ent.refl _) ⟨rA, rc, by rw [he]; rfl, by rw [he]; rfl⟩
end Go.Proofs.Ytdfibmbedjpcgaa
