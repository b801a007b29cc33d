/- The engine: a small judgement over the model's own weakest preconditions, for straight code, blocks, loops, calls; partial knowledge of a frame; a heap told as a list of separate assertions. Generic over the program; nothing of the given program stands here. -/
import Derived.Test.YtdfibmbedjpcgaaEngO
import Derived.WalkKit
import Derived.WalkSpells
import Derived.WalkLawsBesides
import Derived.StillTailTactics
import Derived.Deep.QuietTactic
import Derived.BigQuiet
set_option linter.unusedVariables false
namespace Go.Proofs.Ytdfibmbedjpcgaa
open Go Go.RowKit
namespace Eng

/-! ### Frames: what is known of some slots -/
abbrev Fr := List (Nat × Value)
def fget : Fr → Nat → Option Value
  | [], _ => none
  | (k, v) :: r, t => match Nat.beq k t with | true => some v | false => fget r t

structure Knows (n : Nat) (a : Act) (F : Fr) : Prop where
  defers : a.defers = []
  size : a.tmps.size = n
  at_ : ∀ t v, fget F t = some v → a.tmps.getD t undef = v

theorem Knows.put {n : Nat} {a : Act} {F : Fr} (h : Knows n a F) (d : Nat) (hd : Nat.blt d n = true) (v : Value) : Knows n (a.put (some d) v) ((d, v) :: F) := by
  have hd' : d < n := by simpa [Nat.blt_eq] using hd
  refine ⟨h.defers, by simp [Act.put, h.size], fun t u hu => ?_⟩
  have hs := h.size
  simp only [fget] at hu
  cases hb : Nat.beq d t with
  | true =>
    rw [hb] at hu
    have e : d = t := Nat.eq_of_beq_eq_true hb
    subst e
    injection hu with hu
    subst hu
    simp [Act.put, Array.getD, hs, hd']
  | false =>
    rw [hb] at hu
    have e : d ≠ t := Nat.ne_of_beq_eq_false hb
    have := h.at_ t u hu
    rw [← this]
    simp only [Act.put, Array.getD_eq_getD_getElem?, Array.getElem?_setIfInBounds, if_neg e]
theorem Knows.put_none {n : Nat} {a : Act} {F : Fr} (h : Knows n a F) (v : Value) : Knows n (a.put none v) F := h
theorem Knows.sub {n : Nat} {a : Act} {F G : Fr} (h : Knows n a F) (hs : ∀ t v, fget G t = some v → fget F t = some v) : Knows n a G :=
  ⟨h.defers, h.size, fun t v hv => h.at_ t v (hs t v hv)⟩

/-- Every binding of the first stands in the second. -/
def Subs : Fr → Fr → Prop
  | [], _ => True
  | (k, v) :: r, F => fget F k = some v ∧ Subs r F
theorem Subs.fget {G F : Fr} (h : Subs G F) : ∀ t v, fget G t = some v → fget F t = some v := by
  induction G with
  | nil => intro t v hv; simp [Eng.fget] at hv
  | cons kv r ih =>
    obtain ⟨k, u⟩ := kv
    intro t v hv
    simp only [Eng.fget] at hv
    cases hb : Nat.beq k t with
    | true =>
      rw [hb] at hv
      have e : k = t := Nat.eq_of_beq_eq_true hb
      subst e
      injection hv with hv
      subst hv
      exact h.1
    | false => rw [hb] at hv; exact ih h.2 t v hv

def ev (F : Fr) : Operand → Option Value
  | .tmp t => fget F t
  | .const v => some v
  | .global g => some (.pointer (some ⟨g, 0, none⟩))
  | .func f => some (.func (.func f) #[] #[])
theorem ev_sound {n : Nat} {a : Act} {F : Fr} (h : Knows n a F) {x : Operand} {v : Value} (hv : ev F x = some v) : a.eval x = v := by
  cases x with
  | tmp t => exact h.at_ t v hv
  | const u => simpa [ev, Act.eval] using hv
  | global g => simpa [ev, Act.eval] using hv
  | func f => simpa [ev, Act.eval] using hv
def evs (F : Fr) : List Operand → Option (List Value)
  | [] => some []
  | x :: r => match ev F x with
    | none => none
    | some v => match evs F r with
      | none => none
      | some vs => some (v :: vs)
theorem evs_sound {n : Nat} {a : Act} {F : Fr} (h : Knows n a F) : ∀ {l : List Operand} {vs : List Value}, evs F l = some vs → l.map a.eval = vs := by
  intro l
  induction l with
  | nil => intro vs hv; simp [evs] at hv; simp [hv]
  | cons x r ih =>
    intro vs hv
    simp only [evs] at hv
    cases hx : ev F x with
    | none => simp [hx] at hv
    | some v =>
      cases hr : evs F r with
      | none => simp [hx, hr] at hv
      | some us =>
        simp [hx, hr] at hv
        subst hv
        simp [ev_sound h hx, ih hr]

/-! ### Assertions on memory, each with the blocks that it owns -/
structure Ast where
  A : World → (Nat → Prop) → Prop
  loc : ∀ {w w' : World} {S : Nat → Prop}, A w S → (∀ b, S b → w'.heap[b]? = w.heap[b]?) → A w' S
  live : ∀ {w : World} {S : Nat → Prop} {b : Nat}, A w S → S b → b < w.heap.size

def HpS (w : World) : List Ast → (Nat → Prop) → Prop
  | [], S => ∀ b, ¬ S b
  | a :: r, S => ∃ S1 S2, a.A w S1 ∧ HpS w r S2 ∧ (∀ b, S1 b → S2 b → False) ∧ ∀ b, S b ↔ (S1 b ∨ S2 b)
theorem HpS.loc {w w' : World} : ∀ {L : List Ast} {S : Nat → Prop}, HpS w L S → (∀ b, S b → w'.heap[b]? = w.heap[b]?) → HpS w' L S
  | [], _, h, _ => h
  | a :: r, S, ⟨S1, S2, h1, h2, h3, h4⟩, hm => ⟨S1, S2, a.loc h1 (fun b hb => hm b ((h4 b).2 (.inl hb))), HpS.loc h2 (fun b hb => hm b ((h4 b).2 (.inr hb))), h3, h4⟩
theorem HpS.live {w : World} : ∀ {L : List Ast} {S : Nat → Prop} {b : Nat}, HpS w L S → S b → b < w.heap.size
  | [], _, b, h, hb => (h b hb).elim
  | a :: r, S, b, ⟨S1, S2, h1, h2, _, h4⟩, hb => by
    rcases (h4 b).1 hb with h | h
    · exact a.live h1 h
    · exact HpS.live h2 h
theorem HpS.append {w : World} : ∀ {L M : List Ast} {S T : Nat → Prop}, HpS w L S → HpS w M T → (∀ b, S b → T b → False) → HpS w (L ++ M) (fun b => S b ∨ T b)
  | [], M, S, T, h, hM, _ => by
    have : (fun b => S b ∨ T b) = T := funext fun b => propext ⟨fun hb => hb.resolve_left (h b), .inr⟩
    rw [this]; exact hM
  | a :: r, M, S, T, ⟨S1, S2, h1, h2, h3, h4⟩, hM, hd => by
    refine ⟨S1, fun b => S2 b ∨ T b, h1, HpS.append h2 hM (fun b hb ht => hd b ((h4 b).2 (.inr hb)) ht), fun b hb hb2 => ?_, fun b => ?_⟩
    · rcases hb2 with hb2 | hb2
      · exact h3 b hb hb2
      · exact hd b ((h4 b).2 (.inl hb)) hb2
    · show (S b ∨ T b) ↔ (S1 b ∨ (S2 b ∨ T b))
      rw [h4 b]; exact or_assoc
theorem HpS.split {w : World} : ∀ {L M : List Ast} {S : Nat → Prop}, HpS w (L ++ M) S → ∃ S1 S2, HpS w L S1 ∧ HpS w M S2 ∧ (∀ b, S1 b → S2 b → False) ∧ ∀ b, S b ↔ (S1 b ∨ S2 b)
  | [], M, S, h => ⟨fun _ => False, S, fun _ hb => hb, h, fun _ hb _ => hb, fun b => by simp⟩
  | _ :: _, _, _, ⟨S1, S2, h1, h2, h3, h4⟩ => by
    obtain ⟨T1, T2, g1, g2, g3, g4⟩ := HpS.split h2
    refine ⟨fun b => S1 b ∨ T1 b, T2, ⟨S1, T1, h1, g1, fun b hb hb1 => h3 b hb ((g4 b).2 (.inl hb1)), fun _ => Iff.rfl⟩, g2, fun b hb hb2 => ?_, fun b => ?_⟩
    · rcases hb with hb | hb
      · exact h3 b hb ((g4 b).2 (.inr hb2))
      · exact g3 b hb hb2
    · rw [h4 b, g4 b]; exact or_assoc.symm

/-- One list of assertions gives another, in the same blocks or fewer. -/
def Ent (L M : List Ast) : Prop := ∀ w S, HpS w L S → ∃ T, HpS w M T ∧ ∀ b, T b → S b
theorem Ent.refl (L : List Ast) : Ent L L := fun _ S h => ⟨S, h, fun _ hb => hb⟩
theorem Ent.trans {L M N : List Ast} (h : Ent L M) (k : Ent M N) : Ent L N := fun w S hS =>
  let ⟨T, hT, h1⟩ := h w S hS
  let ⟨U, hU, h2⟩ := k w T hT
  ⟨U, hU, fun b hb => h1 b (h2 b hb)⟩
theorem Ent.drop1 (a : Ast) (L : List Ast) : Ent (a :: L) L := fun _ _ ⟨_, S2, _, h2, _, h4⟩ => ⟨S2, h2, fun b hb => (h4 b).2 (.inr hb)⟩
theorem Ent.nil (L : List Ast) : Ent L [] := fun _ _ _ => ⟨fun _ => False, fun _ hb => hb, fun _ hb => hb.elim⟩
theorem Ent.cons {L M : List Ast} (a : Ast) (h : Ent L M) : Ent (a :: L) (a :: M) := fun w S ⟨S1, S2, h1, h2, h3, h4⟩ => by
  obtain ⟨T, hT, hs⟩ := h w S2 h2
  refine ⟨fun b => S1 b ∨ T b, ⟨S1, T, h1, hT, fun b hb ht => h3 b hb (hs b ht), fun _ => Iff.rfl⟩, fun b hb => ?_⟩
  rcases hb with hb | hb
  · exact (h4 b).2 (.inl hb)
  · exact (h4 b).2 (.inr (hs b hb))
theorem Ent.swap (a c : Ast) (L : List Ast) : Ent (a :: c :: L) (c :: a :: L) := fun w S ⟨S1, S2, h1, ⟨S3, S4, g1, g2, g3, g4⟩, h3, h4⟩ => by
  refine ⟨S, ⟨S3, fun b => S1 b ∨ S4 b, g1, ⟨S1, S4, h1, g2, fun b hb hb4 => h3 b hb ((g4 b).2 (.inr hb4)), fun _ => Iff.rfl⟩, fun b hb hb2 => ?_, fun b => ?_⟩, fun _ hb => hb⟩
  · rcases hb2 with hb2 | hb2
    · exact h3 b hb2 ((g4 b).2 (.inl hb))
    · exact g3 b hb hb2
  · rw [h4 b, g4 b]; exact or_left_comm
/-- The i-th to the front. -/
def pick : Nat → List Ast → List Ast
  | _, [] => []
  | 0, L => L
  | i + 1, a :: L => match pick i L with
    | [] => [a]
    | c :: M => c :: a :: M
theorem Ent.pick : ∀ (i : Nat) (L : List Ast), Ent L (pick i L)
  | i, [] => by cases i <;> exact Ent.refl _
  | 0, a :: L => by simp only [Eng.pick]; exact Ent.refl _
  | i + 1, a :: L => by
    have ih := Ent.cons a (Ent.pick i L)
    simp only [Eng.pick]
    generalize Eng.pick i L = M at ih
    cases M with
    | nil => exact ih
    | cons c M => exact ih.trans (Ent.swap a c M)
/-- The first ones of a list replaced. -/
theorem Ent.head {M M' : List Ast} (h : Ent M M') (L : List Ast) : Ent (M ++ L) (M' ++ L) := fun w S hS => by
  obtain ⟨S1, S2, h1, h2, h3, h4⟩ := HpS.split hS
  obtain ⟨T, hT, hs⟩ := h w S1 h1
  refine ⟨_, HpS.append hT h2 (fun b hb hb2 => h3 b (hs b hb) hb2), fun b hb => ?_⟩
  rcases hb with hb | hb
  · exact (h4 b).2 (.inl (hs b hb))
  · exact (h4 b).2 (.inr hb)

def Hp (B : Nat) (w : World) (L : List Ast) : Prop := ∃ S, HpS w L S ∧ ∀ b, S b → B ≤ b
theorem Hp.ent {B : Nat} {w : World} {L M : List Ast} (h : Hp B w L) (e : Ent L M) : Hp B w M := by
  obtain ⟨S, hS, hB⟩ := h
  obtain ⟨T, hT, hs⟩ := e w S hS
  exact ⟨T, hT, fun b hb => hB b (hs b hb)⟩
theorem Hp.below {B : Nat} {w w' : World} {L : List Ast} (h : Hp B w L) (hb : Below w.heap.size w w') : Hp B w' L := by
  obtain ⟨S, hS, hB⟩ := h
  exact ⟨S, HpS.loc hS (fun b hb' => hb.block b (HpS.live hS hb')), hB⟩
theorem Hp.nil (B : Nat) (w : World) : Hp B w [] := ⟨fun _ => False, fun _ hb => hb, fun _ hb => hb.elim⟩
/-- What is new beside what was there. -/
theorem Hp.add {B : Nat} {w w' : World} {L M : List Ast} (h : Hp B w L) (hb : Below w.heap.size w w') (hB : B ≤ w.heap.size) (hM : Hp w.heap.size w' M) : Hp B w' (M ++ L) := by
  obtain ⟨S, hS, hSB⟩ := h
  obtain ⟨T, hT, hTB⟩ := hM
  refine ⟨_, HpS.append hT (HpS.loc hS (fun b hb' => hb.block b (HpS.live hS hb'))) (fun b ht hs => ?_), fun b hb' => ?_⟩
  · have := hTB b ht
    have := HpS.live hS hs
    omega
  · rcases hb' with hb' | hb'
    · have := hTB b hb'; omega
    · exact hSB b hb'
/-- The first one changed, in its own blocks and new ones alone. -/
theorem Hp.upd {B : Nat} {w : World} {a : Ast} {L : List Ast} (h : Hp B w (a :: L)) (hB : B ≤ w.heap.size) :
    ∃ S1, a.A w S1 ∧ (∀ b, S1 b → B ≤ b ∧ b < w.heap.size) ∧ ∀ w' a' S1', Ast.A a' w' S1' → (∀ b, S1' b → S1 b ∨ w.heap.size ≤ b) →
      (∀ b, b < w.heap.size → ¬ S1 b → w'.heap[b]? = w.heap[b]?) → Hp B w' (a' :: L) := by
  obtain ⟨S, ⟨S1, S2, h1, h2, h3, h4⟩, hSB⟩ := h
  refine ⟨S1, h1, fun b hb => ⟨hSB b ((h4 b).2 (.inl hb)), a.live h1 hb⟩, fun w' a' S1' h1' hs hm => ?_⟩
  refine ⟨fun b => S1' b ∨ S2 b, ⟨S1', S2, h1', HpS.loc h2 (fun b hb => hm b (HpS.live h2 hb) (fun h => h3 b h hb)), fun b hb hb2 => ?_, fun _ => Iff.rfl⟩, fun b hb => ?_⟩
  · rcases hs b hb with h | h
    · exact h3 b h hb2
    · have := HpS.live h2 hb2; omega
  · rcases hb with hb | hb
    · rcases hs b hb with h | h
      · exact hSB b ((h4 b).2 (.inl h))
      · omega
    · exact hSB b ((h4 b).2 (.inr hb))
theorem Hp.front {B : Nat} {w : World} {a : Ast} {L : List Ast} (h : Hp B w (a :: L)) : ∃ S1, a.A w S1 ∧ ∀ b, S1 b → B ≤ b := by
  obtain ⟨S, ⟨S1, S2, h1, h2, h3, h4⟩, hSB⟩ := h
  exact ⟨S1, h1, fun b hb => hSB b ((h4 b).2 (.inl hb))⟩
theorem Hp.nth {B : Nat} {w : World} : ∀ {L : List Ast} (i : Nat) {a : Ast}, Hp B w L → L[i]? = some a → ∃ S1, a.A w S1 ∧ ∀ b, S1 b → B ≤ b
  | [], i, _, _, hi => by simp at hi
  | a :: L, 0, c, h, hi => by
    have : a = c := by simpa using hi
    subst this
    exact h.front
  | a :: L, i + 1, c, h, hi => Hp.nth (L := L) i (h.ent (Ent.drop1 _ _)) (by simpa using hi)
theorem Hp.lower {B B' : Nat} {w : World} {L : List Ast} (h : Hp B w L) (hb : B' ≤ B) : Hp B' w L := by
  obtain ⟨S, hS, hB⟩ := h
  exact ⟨S, hS, fun b hb' => Nat.le_trans hb (hB b hb')⟩

structure St (B : Nat) (w0 w : World) (L : List Ast) : Prop where
  below : Below B w0 w
  le : B ≤ w.heap.size
  hp : Hp B w L
theorem St.ent {B : Nat} {w0 w : World} {L M : List Ast} (h : St B w0 w L) (e : Ent L M) : St B w0 w M := ⟨h.below, h.le, h.hp.ent e⟩

/-! ### The judgement -/
inductive It where
  | code (c : Code)
  | blk (id : Nat)
  | ops (all : Array Oper) (l : List Oper)
  | inv (J : Act → World → Prop)
  | dr (S : World → Prop) (ds : List Nat) (n : Nat) (must : Bool) (listed : Array Bool) (all : Array Oper)

def post (P : Program) (R : Act → World → Prop) : List It → Exit → Act → World → Prop
  | [], .normal, a, w => R a w
  | [], .ret, a, w => R a w
  | [], _, _, _ => False
  | .code c :: k, .normal, a, w => c.wp P (post P R k) a w
  | .code _ :: k, e, a, w => post P R k e a w
  | .blk _ :: k, .normal, a, w => post P R k .normal a w
  | .blk id :: k, .exit i, a, w => if i = id then post P R k .normal a w else post P R k (.exit i) a w
  | .blk _ :: k, e, a, w => post P R k e a w
  | .ops all l :: k, .normal, a, w => wpList P all (post P R k) l a w
  | .ops _ _ :: k, e, a, w => post P R k e a w
  | .inv J :: _, .normal, a, w => J a w
  | .dr S ds n must listed all :: k, .normal, a, w => (must = true → S w) ∧ wpAnyLast P .any all (post P R k) S ds n listed a w
  | .dr _ _ _ _ _ _ :: k, e, a, w => post P R k e a w
  | .inv _ :: k, e, a, w => post P R k e a w

theorem post_ret {P : Program} {R : Act → World → Prop} : ∀ (k : List It) (a : Act) (w : World), R a w → post P R k .ret a w
  | [], _, _, h => h
  | .code _ :: k, a, w, h => post_ret k a w h
  | .blk _ :: k, a, w, h => post_ret k a w h
  | .ops _ _ :: k, a, w, h => post_ret k a w h
  | .inv _ :: k, a, w, h => post_ret k a w h
  | .dr _ _ _ _ _ _ :: k, a, w, h => post_ret k a w h
theorem post_panic {P : Program} {R : Act → World → Prop} {c : List PanicEntry} : ∀ (k : List It) (a : Act) (w : World), post P R k (.panic c) a w → False
  | [], _, _, h => h
  | .code _ :: k, a, w, h => post_panic k a w h
  | .blk _ :: k, a, w, h => post_panic k a w h
  | .ops _ _ :: k, a, w, h => post_panic k a w h
  | .inv _ :: k, a, w, h => post_panic k a w h
  | .dr _ _ _ _ _ _ :: k, a, w, h => post_panic k a w h

def exitK (id : Nat) : List It → Option (List It)
  | [] => none
  | .blk i :: k => match Nat.beq id i with | true => some k | false => exitK id k
  | .code _ :: k => exitK id k
  | .ops _ _ :: k => exitK id k
  | .inv _ :: k => exitK id k
  | .dr _ _ _ _ _ _ :: k => exitK id k
theorem post_exit {P : Program} {R : Act → World → Prop} {id : Nat} : ∀ (k k' : List It) (a : Act) (w : World), exitK id k = some k' → post P R k' .normal a w → post P R k (.exit id) a w
  | [], _, _, _, h, _ => by simp [exitK] at h
  | .blk i :: k, k', a, w, h, hp => by
    simp only [exitK] at h
    simp only [post]
    cases hb : Nat.beq id i with
    | true =>
      rw [hb] at h
      injection h with h
      subst h
      rw [if_pos (Nat.eq_of_beq_eq_true hb)]
      exact hp
    | false =>
      rw [hb] at h
      rw [if_neg (Nat.ne_of_beq_eq_false hb)]
      exact post_exit k k' a w h hp
  | .code _ :: k, k', a, w, h, hp => post_exit k k' a w h hp
  | .ops _ _ :: k, k', a, w, h, hp => post_exit k k' a w h hp
  | .inv _ :: k, k', a, w, h, hp => post_exit k k' a w h hp
  | .dr _ _ _ _ _ _ :: k, k', a, w, h, hp => post_exit k k' a w h hp

/-- What holds for a whole function's walk: the program, the number of slots, below which block nothing turns, since which world, what is to be shown at the return. -/
structure Cx where
  P : Program
  n : Nat
  B : Nat
  w0 : World
  R : Act → World → Prop

def W (X : Cx) (k : List It) (F : Fr) (L : List Ast) : Prop := ∀ a w, Knows X.n a F → St X.B X.w0 w L → post X.P X.R k .normal a w

section
variable {X : Cx} {k : List It} {F : Fr} {L : List Ast}

theorem W_sub {G : Fr} (hs : Subs G F) (h : W X k G L) : W X k F L := fun a w ha hw => h a w (ha.sub hs.fget) hw
theorem W_ent {M : List Ast} (e : Ent L M) (h : W X k F M) : W X k F L := fun a w ha hw => h a w ha (hw.ent e)
theorem W_pick (i : Nat) {M : List Ast} (hM : pick i L = M) (h : W X k F M) : W X k F L := W_ent (hM ▸ Ent.pick i L) h
theorem W_seq {x y : Code} (h : W X (.code x :: .code y :: k) F L) : W X (.code (.seq x y) :: k) F L := fun a w ha hw =>
  wp_seq (wp_mono (h a w ha hw) (fun e a' w' q => by cases e <;> exact q))
theorem W_skip (h : W X k F L) : W X (.code .skip :: k) F L := fun a w ha hw => wp_skip (h a w ha hw)
theorem W_block {id : Nat} {c : Code} (h : W X (.code c :: .blk id :: k) F L) : W X (.code (.block id c) :: k) F L := fun a w ha hw =>
  wp_block (wp_mono (h a w ha hw) (fun e a' w' q => by cases e <;> exact q))
theorem W_blk {id : Nat} (h : W X k F L) : W X (.blk id :: k) F L := fun a w ha hw => h a w ha hw
theorem W_exit {id : Nat} {k' : List It} (hk : exitK id k = some k') (h : W X k' F L) : W X (.code (.exit id) :: k) F L := fun a w ha hw =>
  wp_exit (post_exit k k' a w hk (h a w ha hw))
theorem W_ret (h : ∀ a w, Knows X.n a F → St X.B X.w0 w L → X.R a w) : W X (.code .ret :: k) F L := fun a w ha hw => wp_ret (post_ret k a w (h a w ha hw))
theorem W_end (h : ∀ a w, Knows X.n a F → St X.B X.w0 w L → X.R a w) : W X [] F L := fun a w ha hw => h a w ha hw
theorem W_region {id : Nat} {ops : Array Oper} {l : List Oper} (hl : ops.toList = l) (h : W X (.ops ops l :: k) F L) : W X (.code (.region id ops false) :: k) F L := fun a w ha hw =>
  wp_region_list (by rw [hl]; exact h a w ha hw)
theorem W_opsnil {all : Array Oper} (h : W X k F L) : W X (.ops all [] :: k) F L := fun a w ha hw => wpList_nil (h a w ha hw)
theorem W_cond {c : Operand} {x y : Code} {b : Bool} (hc : ev F c = some (.bool b)) (ht : b = true → W X (.code x :: k) F L) (hf : b = false → W X (.code y :: k) F L) : W X (.code (.cond c x y) :: k) F L := fun a w ha hw => by
  refine wp_cond (ev_sound ha hc) ?_
  cases hb : b with
  | true => exact ht hb a w ha hw
  | false => exact hf hb a w ha hw
theorem W_cond_t {c : Operand} {x y : Code} (hc : ev F c = some (.bool true)) (h : W X (.code x :: k) F L) : W X (.code (.cond c x y) :: k) F L := W_cond hc (fun _ => h) (fun h => by cases h)
theorem W_cond_f {c : Operand} {x y : Code} (hc : ev F c = some (.bool false)) (h : W X (.code y :: k) F L) : W X (.code (.cond c x y) :: k) F L := W_cond hc (fun h => by cases h) (fun _ => h)
theorem W_cond_d {c : Operand} {x y : Code} {p : Prop} [Decidable p] (hc : ev F c = some (.bool (decide p))) (ht : p → W X (.code x :: k) F L) (hf : ¬ p → W X (.code y :: k) F L) : W X (.code (.cond c x y) :: k) F L :=
  W_cond hc (fun h => ht (of_decide_eq_true h)) (fun h => hf (of_decide_eq_false h))
theorem W_cond_nd {c : Operand} {x y : Code} {p : Prop} [Decidable p] (hc : ev F c = some (.bool (!decide p))) (ht : ¬ p → W X (.code x :: k) F L) (hf : p → W X (.code y :: k) F L) : W X (.code (.cond c x y) :: k) F L :=
  W_cond hc (fun h => ht (by simpa using h)) (fun h => hf (by simpa using h))

theorem least_ex (q : Nat → Prop) : ∀ n, q n → ∃ m, q m ∧ ∀ j, q j → m ≤ j := by
  intro n
  induction n using Nat.strongRecOn with
  | _ n ih =>
    intro hn
    by_cases h : ∃ j, j < n ∧ q j
    · obtain ⟨j, hj, hq⟩ := h
      exact ih j hj hq
    · exact ⟨n, hn, fun j hq => Nat.le_of_not_lt fun hlt => h ⟨j, hlt, hq⟩⟩
/-- A loop: an index, a frame and a heap for each index, what holds of the index, a measure. -/
theorem W_loop {ι : Type} (Fi : ι → Fr) (Li : ι → List Ast) (p : ι → Prop) (μ : ι → Nat) (i0 : ι) {c : Code} (h0 : p i0) (hF : Subs (Fi i0) F) (hL : Ent L (Li i0))
    (step : ∀ i, p i → W X (.code c :: .inv (fun a w => ∃ j, p j ∧ μ j < μ i ∧ Knows X.n a (Fi j) ∧ St X.B X.w0 w (Li j)) :: k) (Fi i) (Li i)) : W X (.code (.loop c) :: k) F L := by
  intro a w ha hw
  let ok : Nat → Act → World → Prop := fun m a w => ∃ i, p i ∧ μ i = m ∧ Knows X.n a (Fi i) ∧ St X.B X.w0 w (Li i)
  have main : ∀ m a w, ok m a w → (Code.loop c).wp X.P (post X.P X.R k) a w := by
    intro m0 a w hok
    classical
    let least : Act → World → Nat := fun a w => if h : ∃ m, ok m a w ∧ ∀ j, ok j a w → m ≤ j then Classical.choose h else 0
    have hleast : ∀ a w m, ok m a w → ok (least a w) a w ∧ least a w ≤ m := fun a w m h => by
      have hex : ∃ m, ok m a w ∧ ∀ j, ok j a w → m ≤ j := least_ex (fun m => ok m a w) m h
      have he : least a w = Classical.choose hex := dif_pos hex
      have hs := Classical.choose_spec hex
      rw [he]
      exact ⟨hs.1, hs.2 m h⟩
    refine wp_loop (fun a w => ∃ m, ok m a w) least ⟨m0, hok⟩ (fun a w hI => ?_)
    obtain ⟨m, hmk⟩ := hI
    obtain ⟨i, hp, hm, hk, hs⟩ := (hleast a w m hmk).1
    refine wp_mono (step i hp a w hk hs) (fun e a' w' q => ?_)
    cases e with
    | normal =>
      obtain ⟨j, hj, hlt, hkj, hsj⟩ := q
      have hex : ok (μ j) a' w' := ⟨j, hj, rfl, hkj, hsj⟩
      refine ⟨⟨_, hex⟩, ?_⟩
      have h3 := (hleast a' w' _ hex).2
      omega
    | _ => exact q
  exact main (μ i0) a w ⟨i0, h0, rfl, ha.sub hF.fget, hw.ent hL⟩
/-- A round's end. -/
theorem W_inv {ι : Type} {Fi : ι → Fr} {Li : ι → List Ast} {p : ι → Prop} {μ : ι → Nat} {m : Nat} (j : ι) (hp : p j) (hm : μ j < m) (hF : Subs (Fi j) F) (hL : Ent L (Li j)) :
    W X (.inv (fun a w => ∃ j, p j ∧ μ j < m ∧ Knows X.n a (Fi j) ∧ St X.B X.w0 w (Li j)) :: k) F L := fun _ _ ha hw => ⟨j, hp, hm, ha.sub hF.fget, hw.ent hL⟩

/-! ### One operation -/
/-- An operation that yields a value and leaves the world: in the world that is there. -/
theorem W_val {all : Array Oper} {d : Nat} {op : Op} {ty : TypeId} {pos : String} {af : Array Edge} {l : List Oper} {v : Value} (hd : Nat.blt d X.n = true)
    (hr : ∀ a w, Knows X.n a F → St X.B X.w0 w L → (execOp a.eval ⟨some d, op, ty, pos, af, none⟩).run X.P w = .ok (.value v) w)
    (h : W X (.ops all l :: k) ((d, v) :: F) L) : W X (.ops all (⟨some d, op, ty, pos, af, none⟩ :: l) :: k) F L := fun a w ha hw => by
  refine wpList_plain rfl fun K hK => ?_
  unfold Oper.wp
  rw [hr a w ha hw, Oper.upon_value]
  exact hK _ _ (h _ w (ha.put d hd v) hw)
/-- An operation that yields a value and leads to another world. -/
theorem W_valw {all : Array Oper} {d : Nat} {op : Op} {ty : TypeId} {pos : String} {af : Array Edge} {l : List Oper} (hd : Nat.blt d X.n = true)
    (hr : ∀ a w, Knows X.n a F → St X.B X.w0 w L → ∃ v w' M, (execOp a.eval ⟨some d, op, ty, pos, af, none⟩).run X.P w = .ok (.value v) w' ∧ St X.B X.w0 w' M ∧ W X (.ops all l :: k) ((d, v) :: F) M) :
    W X (.ops all (⟨some d, op, ty, pos, af, none⟩ :: l) :: k) F L := fun a w ha hw => by
  obtain ⟨v, w', M, h1, h2, h3⟩ := hr a w ha hw
  refine wpList_plain rfl fun K hK => ?_
  unfold Oper.wp
  rw [h1, Oper.upon_value]
  exact hK _ _ (h3 _ w' (ha.put d hd v) h2)
/-- An operation that yields nothing (a store). -/
theorem W_skipw {all : Array Oper} {op : Op} {ty : TypeId} {pos : String} {af : Array Edge} {l : List Oper}
    (hr : ∀ a w, Knows X.n a F → St X.B X.w0 w L → ∃ w' M, (execOp a.eval ⟨none, op, ty, pos, af, none⟩).run X.P w = .ok .skip w' ∧ St X.B X.w0 w' M ∧ W X (.ops all l :: k) F M) :
    W X (.ops all (⟨none, op, ty, pos, af, none⟩ :: l) :: k) F L := fun a w ha hw => by
  obtain ⟨w', M, h1, h2, h3⟩ := hr a w ha hw
  refine wpList_plain rfl fun K hK => ?_
  unfold Oper.wp
  rw [h1, Oper.upon_skip]
  exact hK _ _ (h3 _ w' (ha.put_none undef) h2)

/-! ### Guards -/
/-- A slot's bool decided. -/
theorem W_dec (d : Nat) {b : Bool} (hb : fget F d = some (.bool b)) (ht : b = true → W X k ((d, .bool true) :: F) L) (hf : b = false → W X k ((d, .bool false) :: F) L) : W X k F L := fun a w ha hw => by
  have hv := ha.at_ d _ hb
  have ha' : Knows X.n a ((d, .bool b) :: F) := ⟨ha.defers, ha.size, fun t u hu => by
    simp only [fget] at hu
    cases hbq : Nat.beq d t with
    | true =>
      rw [hbq] at hu
      have e : d = t := Nat.eq_of_beq_eq_true hbq
      subst e
      injection hu with hu
      subst hu
      exact hv
    | false => rw [hbq] at hu; exact ha.at_ t u hu⟩
  cases b with
  | true => exact ht rfl a w ha' hw
  | false => exact hf rfl a w ha' hw
theorem yields_slot {n : Nat} {a : Act} (ha : Knows n a F) {all : Array Oper} {j d : Nat} {b : Bool} (hj : (all[j]?).bind (·.dst) = some d) (hb : fget F d = some (.bool b)) (hn : Nat.blt d n = true) : yielded all a.tmps j = some b := by
  have hv := ha.at_ d _ hb
  have hd' : d < a.tmps.size := by rw [ha.size]; simpa [Nat.blt_eq] using hn
  unfold yielded
  rw [hj]
  have : a.tmps[d]? = some (.bool b) := by
    rw [Array.getD_eq_getD_getElem?] at hv
    rw [Array.getElem?_eq_getElem hd'] at hv ⊢
    simpa using hv
  simp [this]
/-- A guarded operation that is carried out. -/
theorem W_on {all : Array Oper} {dst : Option Nat} {op : Op} {ty : TypeId} {pos : String} {af : Array Edge} {l : List Oper} {j d : Nat} {want : Bool}
    (hj : (all[j]?).bind (·.dst) = some d) (hb : fget F d = some (.bool want)) (hn : Nat.blt d X.n = true)
    (h : W X (.ops all (⟨dst, op, ty, pos, af, none⟩ :: l) :: k) F L) : W X (.ops all (⟨dst, op, ty, pos, af, some (j, want)⟩ :: l) :: k) F L := fun a w ha hw => by
  have hy := yields_slot ha hj hb hn
  have := h a w ha hw
  show wpList X.P all _ _ a w
  unfold wpList
  rw [if_pos (by simp [Region.wanted, hy])]
  change wpList X.P all _ (⟨dst, op, ty, pos, af, none⟩ :: l) a w at this
  unfold wpList at this
  rw [if_pos (by simp [Region.wanted])] at this
  exact this
/-- A guarded operation that is passed over. -/
theorem W_off {all : Array Oper} {e : Nat} {op : Op} {ty : TypeId} {pos : String} {af : Array Edge} {l : List Oper} {j d : Nat} {want b : Bool}
    (hj : (all[j]?).bind (·.dst) = some d) (hb : fget F d = some (.bool b)) (hbw : (b != want) = true) (hn : Nat.blt d X.n = true) (he : Nat.blt e X.n = true)
    (h : W X (.ops all l :: k) ((e, undef) :: F) L) : W X (.ops all (⟨some e, op, ty, pos, af, some (j, want)⟩ :: l) :: k) F L := fun a w ha hw => by
  have hy := yields_slot ha hj hb hn
  show wpList X.P all _ _ a w
  unfold wpList
  rw [if_neg (by simp only [Region.wanted, hy]; revert hbw; cases b <;> cases want <;> simp)]
  exact h _ w (ha.put e he undef) hw

/-- A guarded operation whose guard was itself passed over. -/
theorem yields_undef {n : Nat} {a : Act} (ha : Knows n a F) {all : Array Oper} {j d : Nat} (hj : (all[j]?).bind (·.dst) = some d) (hb : fget F d = some undef) (hn : Nat.blt d n = true) : yielded all a.tmps j = none := by
  have hv := ha.at_ d _ hb
  have hd' : d < a.tmps.size := by rw [ha.size]; simpa [Nat.blt_eq] using hn
  unfold yielded
  rw [hj]
  have : a.tmps[d]? = some undef := by
    rw [Array.getD_eq_getD_getElem?] at hv
    rw [Array.getElem?_eq_getElem hd'] at hv ⊢
    simpa using hv
  simp [this, undef]
theorem W_offU {all : Array Oper} {e : Nat} {op : Op} {ty : TypeId} {pos : String} {af : Array Edge} {l : List Oper} {j d : Nat} {want : Bool}
    (hj : (all[j]?).bind (·.dst) = some d) (hb : fget F d = some undef) (hn : Nat.blt d X.n = true) (he : Nat.blt e X.n = true)
    (h : W X (.ops all l :: k) ((e, undef) :: F) L) : W X (.ops all (⟨some e, op, ty, pos, af, some (j, want)⟩ :: l) :: k) F L := fun a w ha hw => by
  have hy := yields_undef ha hj hb hn
  show wpList X.P all _ _ a w
  unfold wpList
  rw [if_neg (by simp [Region.wanted, hy])]
  exact h _ w (ha.put e he undef) hw

/-! ### Calls -/
/-- What a call comes to: a value, the heap as it was but for what is told. -/
theorem W_callG {all : Array Oper} {d : Nat} {f : FuncId} {args : Array Operand} {tys : Array TypeId} {ty : TypeId} {pos : String} {af : Array Edge} {l : List Oper} {vs : List Value}
    (hd : Nat.blt d X.n = true) (hcall : ∀ args w, (callFunc f args).run X.P w = .ok (.enter f args) w) (hargs : evs F args.toList = some vs)
    (hc : ∀ w, St X.B X.w0 w L → Calls X.P f vs.toArray w fun e w' => ∃ v M, e = .returned v ∧ St X.B X.w0 w' M ∧ W X (.ops all l :: k) ((d, v) :: F) M) :
    W X (.ops all (⟨some d, .call { callee := .value (.func f), args := args, argTypes := tys }, ty, pos, af, none⟩ :: l) :: k) F L := fun a w ha hw => by
  refine wpList_plain rfl fun K hK => ?_
  have hm : args.map a.eval = vs.toArray := by
    have := evs_sound ha hargs
    rw [← this, ← Array.toList_map]
  have hrun : (execOp a.eval ⟨some d, .call { callee := .value (.func f), args := args, argTypes := tys }, ty, pos, af, none⟩).run X.P w = .ok (.enter f vs.toArray) w := by
    simp [execOp, resolve, Deferred.ofValue, invoke, Act.eval, hm, hcall]
  unfold Oper.wp
  rw [hrun, Oper.upon_enter]
  refine (hc w hw).mono fun e w' ⟨v, M, he, hs, hW⟩ => ?_
  subst he
  exact hK _ _ (hW _ w' (ha.put d hd v) hs)
/-- The same for a call that yields nothing. -/
theorem W_callG0 {all : Array Oper} {f : FuncId} {args : Array Operand} {tys : Array TypeId} {ty : TypeId} {pos : String} {af : Array Edge} {l : List Oper} {vs : List Value}
    (hcall : ∀ args w, (callFunc f args).run X.P w = .ok (.enter f args) w) (hargs : evs F args.toList = some vs)
    (hc : ∀ w, St X.B X.w0 w L → Calls X.P f vs.toArray w fun e w' => ∃ v M, e = .returned v ∧ St X.B X.w0 w' M ∧ W X (.ops all l :: k) F M) :
    W X (.ops all (⟨none, .call { callee := .value (.func f), args := args, argTypes := tys }, ty, pos, af, none⟩ :: l) :: k) F L := fun a w ha hw => by
  refine wpList_plain rfl fun K hK => ?_
  have hm : args.map a.eval = vs.toArray := by
    have := evs_sound ha hargs
    rw [← this, ← Array.toList_map]
  have hrun : (execOp a.eval ⟨none, .call { callee := .value (.func f), args := args, argTypes := tys }, ty, pos, af, none⟩).run X.P w = .ok (.enter f vs.toArray) w := by
    simp [execOp, resolve, Deferred.ofValue, invoke, Act.eval, hm, hcall]
  unfold Oper.wp
  rw [hrun, Oper.upon_enter]
  refine (hc w hw).mono fun e w' ⟨v, M, he, hs, hW⟩ => ?_
  subst he
  exact hK _ _ (hW _ w' (ha.put_none v) hs)
end

/-- A contract of a function that turns nothing that was there: what it hands back, what of it is new. -/
def Fresh (P : Program) (f : FuncId) (vs : List Value) (w : World) (p : Value → List Ast → Prop) : Prop :=
  Calls P f vs.toArray w fun e w' => ∃ v M, e = .returned v ∧ Below w.heap.size w w' ∧ Hp w.heap.size w' M ∧ p v M

section
variable {X : Cx} {k : List It} {F : Fr} {L : List Ast}
theorem St.add {B : Nat} {w0 w w' : World} {L M : List Ast} (h : St B w0 w L) (hb : Below w.heap.size w w') (hM : Hp w.heap.size w' M) : St B w0 w' (M ++ L) :=
  ⟨h.below.trans (hb.mono h.le), Nat.le_trans h.le hb.size, h.hp.add hb h.le hM⟩
theorem W_call {all : Array Oper} {d : Nat} {f : FuncId} {args : Array Operand} {tys : Array TypeId} {ty : TypeId} {pos : String} {af : Array Edge} {l : List Oper} {vs : List Value}
    (p : Value → List Ast → Prop)
    (hd : Nat.blt d X.n = true) (hcall : ∀ args w, (callFunc f args).run X.P w = .ok (.enter f args) w) (hargs : evs F args.toList = some vs)
    (hc : ∀ w, St X.B X.w0 w L → Fresh X.P f vs w p)
    (h : ∀ v M, p v M → W X (.ops all l :: k) ((d, v) :: F) (M ++ L)) :
    W X (.ops all (⟨some d, .call { callee := .value (.func f), args := args, argTypes := tys }, ty, pos, af, none⟩ :: l) :: k) F L :=
  W_callG hd hcall hargs fun w hw => (hc w hw).mono fun _ _ ⟨v, M, he, hb, hM, hp⟩ => ⟨v, M ++ L, he, hw.add hb hM, h v M hp⟩
end

/-- How a walk begins. -/
theorem enter {P : Program} {f : FuncId} {fn : Func} {c : Code} {args : List Value} {w0 : World} {R : Ending → World → Prop} {B n : Nat} {F : Fr} {L : List Ast}
    (hf : P.funcs[f]? = some fn) (hb : fn.body = some c) (hn : fn.ntmps = n) (hle : Nat.ble args.length n = true) (hF : (List.range args.length).zip args = F) (hB : B ≤ w0.heap.size) (hL : Hp B w0 L)
    (h : W ⟨P, n, B, w0, fun a w => bodyPost P fn R .ret a w⟩ [.code c] F L) : Calls P f args.toArray w0 R := by
  subst hn
  have hle' : args.length ≤ fn.ntmps := by simpa using hle
  refine calls_of_wp hf hb ?_
  refine wp_mono (h _ w0 ⟨rfl, by simp; omega, fun t v hv => ?_⟩ ⟨Below.refl _ _, hB, hL⟩) (fun e a w q => ?_)
  · have key : ∀ (l : List Value) (s : Nat) (t : Nat) (v : Value), fget ((List.range' s l.length).zip l) t = some v → s ≤ t ∧ l[t - s]? = some v := by
      intro l
      induction l with
      | nil => intro s t v hv; simp [fget] at hv
      | cons x r ih =>
        intro s t v hv
        simp only [List.length_cons, List.range'_succ, List.zip_cons_cons, fget] at hv
        cases hb : Nat.beq s t with
        | true =>
          rw [hb] at hv
          have e : s = t := Nat.eq_of_beq_eq_true hb
          subst e
          simpa using hv
        | false =>
          rw [hb] at hv
          have e : s ≠ t := Nat.ne_of_beq_eq_false hb
          obtain ⟨h1, h2⟩ := ih (s + 1) t v hv
          refine ⟨by omega, ?_⟩
          rw [show t - s = (t - (s + 1)) + 1 by omega]
          simpa using h2
    subst hF
    rw [List.range_eq_range'] at hv
    obtain ⟨_, h2⟩ := key args 0 t v hv
    simp only [Nat.sub_zero] at h2
    have hlt : t < args.length := (List.getElem?_eq_some_iff.1 h2).1
    rw [Array.getD_eq_getD_getElem?, Array.getElem?_append_left (by simpa using hlt)]
    simp [h2]
  · cases e <;> simp only [post] at q <;> first | exact q | exact q.elim
end Eng
end Go.Proofs.Ytdfibmbedjpcgaa
