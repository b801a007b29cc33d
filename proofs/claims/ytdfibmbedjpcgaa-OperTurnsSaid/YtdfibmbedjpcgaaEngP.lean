/- The engine, second part: operations that only compute, told by a function of the known slots; a whole stretch of them in one step. Generic over the program: what is asked of types comes in as a table. -/
import Derived.Test.YtdfibmbedjpcgaaEng
import Derived.IntWalk
import Derived.LaidEql
set_option linter.unusedVariables false
set_option linter.unusedSimpArgs false
namespace Go.Proofs.Ytdfibmbedjpcgaa
open Go Go.RowKit
namespace Eng

structure TI where
  u : TypeDesc
  ti : TypeInfo
  guard : Bool
abbrev Tab := List (Nat × TI)
def tget : Tab → Nat → Option TI
  | [], _ => none
  | (k, v) :: r, t => match Nat.beq k t with | true => some v | false => tget r t
def eqCells : List Value → List Value → List Value → Option Bool
  | [], [], [] => some true
  | .int _ _ :: z, .int k a :: r, .int k' b :: s => if k = k' then (match eqCells z r s with | some c => some (decide (a = b) && c) | none => none) else none
  | .bool _ :: z, .bool a :: r, .bool b :: s => (match eqCells z r s with | some c => some ((a == b) && c) | none => none)
  | _, _, _ => none
def zcells (i : TI) : List Value := match i.ti.zero with | some (.agg cs) => cs.toList | _ => []
structure TIok (P : Program) (t : Nat) (i : TI) : Prop where
  u : P.underlying t = some i.u
  ti : P.info? t = some i.ti
  guard : i.guard = false → P.eqGuardType P.depth t = false ∧ ∀ w (xs ys : Array Value) b, eqCells (zcells i) xs.toList ys.toList = some b → (Op.equal t (.agg xs) (.agg ys)).run P w = .ok b w
def TabOk (P : Program) : Tab → Prop
  | [] => True
  | (k, v) :: r => TIok P k v ∧ TabOk P r
theorem TabOk.get {P : Program} : ∀ {T : Tab} {t : Nat} {i : TI}, TabOk P T → tget T t = some i → TIok P t i
  | [], _, _, _, h => by simp [tget] at h
  | (k, v) :: r, t, i, ⟨h1, h2⟩, h => by
    simp only [tget] at h
    cases hb : Nat.beq k t with
    | true =>
      rw [hb] at h
      have e : k = t := Nat.eq_of_beq_eq_true hb
      subst e
      injection h with h
      subst h
      exact h1
    | false => rw [hb] at h; exact TabOk.get h2 h

def okI (k : IntKind) (x : Int) : Prop := match k with
  | .i8 => -128 ≤ x ∧ x ≤ 127
  | .i16 => -32768 ≤ x ∧ x ≤ 32767
  | .i32 => -2147483648 ≤ x ∧ x ≤ 2147483647
  | .i64 => -9223372036854775808 ≤ x ∧ x ≤ 9223372036854775807
  | .u8 => 0 ≤ x ∧ x ≤ 255
  | .u16 => 0 ≤ x ∧ x ≤ 65535
  | .u32 => 0 ≤ x ∧ x ≤ 4294967295
  | .u64 => 0 ≤ x ∧ x ≤ 18446744073709551615
theorem wrap_ok {k : IntKind} {x : Int} (h : okI k x) : k.wrap x = x := by
  cases k
  · exact IntWalk.i8_in x h
  · exact IntWalk.i16_in x h
  · exact IntWalk.i32_in x h
  · exact IntWalk.i64_in x h
  · exact IntWalk.u8_in x h
  · exact IntWalk.u16_in x h
  · exact IntWalk.u32_in x h
  · exact IntWalk.u64_in x h

/-! Parts of aggregates, as lists. -/
def putL : List Value → Nat → List Value → List Value
  | [], _, _ => []
  | cs, 0, [] => cs
  | _ :: cs, 0, v :: vs => v :: putL cs 0 vs
  | c :: cs, n + 1, vs => c :: putL cs n vs
theorem putL_length : ∀ (cs : List Value) (n : Nat) (vs : List Value), (putL cs n vs).length = cs.length
  | [], _, _ => by simp [putL]
  | _ :: _, 0, [] => by simp [putL]
  | _ :: cs, 0, _ :: vs => by simp [putL, putL_length cs 0 vs]
  | _ :: cs, n + 1, vs => by simp [putL, putL_length cs n vs]
theorem putL_get : ∀ (cs : List Value) (n : Nat) (vs : List Value) (j : Nat), n + vs.length ≤ cs.length → (putL cs n vs)[j]? = if n ≤ j ∧ j < n + vs.length then vs[j - n]? else cs[j]?
  | [], n, vs, j, h => by simp at h; obtain ⟨h1, h2⟩ := h; subst h1; subst h2; simp [putL]
  | c :: cs, 0, [], j, h => by simp [putL]
  | c :: cs, 0, v :: vs, j, h => by
    cases j with
    | zero => simp [putL]
    | succ j =>
      have := putL_get cs 0 vs j (by simp at h ⊢; omega)
      simp only [putL, List.getElem?_cons_succ, this, List.length_cons]
      by_cases hj : j < vs.length
      · rw [if_pos (by omega), if_pos (by omega)]; simp
      · rw [if_neg (by omega), if_neg (by omega)]
  | c :: cs, n + 1, vs, j, h => by
    cases j with
    | zero => simp [putL]
    | succ j =>
      have := putL_get cs n vs j (by simp at h; omega)
      simp only [putL, List.getElem?_cons_succ, this]
      by_cases hj : n ≤ j ∧ j < n + vs.length
      · rw [if_pos hj, if_pos (by omega)]; congr 1; omega
      · rw [if_neg hj, if_neg (by omega)]
theorem putL_nil : ∀ (cs : List Value) (n : Nat), putL cs n [] = cs
  | [], _ => by simp [putL]
  | _ :: _, 0 => by simp [putL]
  | c :: cs, n + 1 => by simp [putL, putL_nil cs n]
theorem foldl_put (vs : List Value) : ∀ (cs : List Value) (n s : Nat), n + s + vs.length ≤ cs.length →
    (vs.zipIdx s).foldl (fun (a : Array Value) (x : Value × Nat) => a.setIfInBounds (n + x.2) x.1) cs.toArray = (putL cs (n + s) vs).toArray := by
  induction vs with
  | nil => intro cs n s h; rw [putL_nil]; rfl
  | cons v vs ih =>
    intro cs n s h
    simp only [List.length_cons] at h
    simp only [List.zipIdx_cons, List.foldl_cons, List.setIfInBounds_toArray]
    rw [ih (cs.set (n + s) v) n (s + 1) (by simp; omega)]
    congr 1
    apply List.ext_getElem?
    intro j
    rw [putL_get _ _ _ _ (by simp; omega), putL_get _ _ _ _ (by simp; omega)]
    simp only [List.length_cons, List.getElem?_set]
    by_cases hj : j = n + s
    · subst hj
      have : ¬ (n + (s + 1) ≤ n + s) := by omega
      simp [this]
      omega
    · by_cases hj2 : n + (s + 1) ≤ j ∧ j < n + (s + 1) + vs.length
      · rw [if_pos hj2, if_pos (by omega)]
        rw [show j - (n + s) = (j - (n + (s + 1))) + 1 by omega]
        simp
      · rw [if_neg hj2, if_neg (by omega), if_neg (by omega)]

def vcells : Value → List Value
  | .agg cs => cs.toList
  | v => [v]
theorem vcells_eq (v : Value) : v.cells = (vcells v).toArray := by cases v <;> simp [Value.cells, vcells]
def fsize (T : Tab) (t : TypeId) : Option Nat := match tget T t with | some i => some i.ti.size | none => none
/-- The offset and the size of a struct's field. -/
def fld (T : Tab) (t : TypeId) (f : Nat) : Option (Nat × Nat × TypeId) := match tget T t with
  | some i => match i.u with
    | .struct fs => match fs.toList[f]? with
      | some x => match fsize T x.type with
        | some s => some (x.offset, s, x.type)
        | none => none
      | none => none
    | _ => none
  | none => none
def buildL (T : Tab) (t : TypeId) : List Value → List (Nat × Value) → Option (List Value)
  | cs, [] => some cs
  | cs, (i, v) :: r => match fld T t i with
    | some (off, s, _) => match Nat.beq (vcells v).length s, Nat.ble (off + (vcells v).length) cs.length with
      | true, true => buildL T t (putL cs off (vcells v)) r
      | _, _ => none
    | none => none
def allF (T : Tab) : List Field → Bool
  | [] => true
  | x :: r => match fsize T x.type with
    | some _ => allF T r
    | none => false
def isAggD : TypeDesc → Bool
  | .struct _ => true
  | .array _ _ => true
  | _ => false
def partL (T : Tab) (t : TypeId) (cs : List Value) (off : Nat) : Option Value := match tget T t with
  | some i => match isAggD i.u with
    | true => some (.agg ((cs.drop off).take i.ti.size).toArray)
    | false => cs[off]?
  | none => none
def evp (F : Fr) : List (Nat × Operand) → Option (List (Nat × Value))
  | [] => some []
  | (i, x) :: r => match ev F x, evp F r with
    | some v, some vs => some ((i, v) :: vs)
    | _, _ => none
def cutA (A : Option Addr) (l m sz : Nat) : Option Addr := if m = l then A else A.map (·.add (l * sz))
def intOf' : Value → Option Int
  | .int _ n => some n
  | _ => none
def bnd (F : Fr) (o : Option Operand) (d : Int) : Option Int := match o with
  | none => some d
  | some x => match ev F x with
    | some (.int _ n) => some n
    | _ => none
def bin (T : Tab) (op : BinOp) (t : TypeId) (x y : Value) : Option (Value × Prop) :=
  match x, y with
  | .int k a, .int k' b =>
    match op with
    | .shl => none
    | .shr => none
    | .add => if k = k' then some (.int k (a + b), okI k (a + b)) else none
    | .sub => if k = k' then some (.int k (a - b), okI k (a - b)) else none
    | .mul => if k = k' then some (.int k (a * b), okI k (a * b)) else none
    | .quo => if k = k' then some (.int k (a / b), 0 ≤ a ∧ 1 ≤ b ∧ okI k (a / b)) else none
    | .rem => if k = k' then some (.int k (a.tmod b), b ≠ 0) else none
    | .eql => if k = k' then some (.bool (decide (a = b)), True) else none
    | .neq => if k = k' then some (.bool (!decide (a = b)), True) else none
    | .lss => if k = k' then some (.bool (decide (a < b)), True) else none
    | .leq => if k = k' then some (.bool (decide (a ≤ b)), True) else none
    | .gtr => if k = k' then some (.bool (decide (b < a)), True) else none
    | .geq => if k = k' then some (.bool (decide (b ≤ a)), True) else none
    | _ => none
  | .bool a, .bool b => match op, tget T t with
    | .eql, some i => match i.u with | .bool => some (.bool (a == b), True) | _ => none
    | .neq, some i => match i.u with | .bool => some (.bool (!(a == b)), True) | _ => none
    | _, _ => none
  | .pointer p, .pointer none => match op, tget T t with
    | .eql, some i => match i.u with | .pointer _ => some (.bool p.isNone, True) | _ => none
    | .neq, some i => match i.u with | .pointer _ => some (.bool (!p.isNone), True) | _ => none
    | _, _ => none
  | .slice A _ _, .slice none _ _ => match op, tget T t with
    | .eql, some i => match i.u with | .slice _ => some (.bool A.isNone, True) | _ => none
    | .neq, some i => match i.u with | .slice _ => some (.bool (!A.isNone), True) | _ => none
    | _, _ => none
  | .agg xs, .agg ys => match op, tget T t with
    | .eql, some i => match i.guard, eqCells (zcells i) xs.toList ys.toList with | false, some b => some (.bool b, True) | _, _ => none
    | .neq, some i => match i.guard, eqCells (zcells i) xs.toList ys.toList with | false, some b => some (.bool (!b), True) | _, _ => none
    | _, _ => none
  | .nilIface, .nilIface => none
  | .iface _ _, .nilIface => match op, tget T t with
    | .eql, some i => match i.u with | .interface _ => some (.bool false, True) | _ => none
    | .neq, some i => match i.u with | .interface _ => some (.bool true, True) | _ => none
    | _, _ => none
  | .func _ _ _, .nilFunc => match op, tget T t with
    | .eql, some i => match i.u with | .func _ _ _ => some (.bool false, True) | _ => none
    | .neq, some i => match i.u with | .func _ _ _ => some (.bool true, True) | _ => none
    | _, _ => none
  | .nilFunc, .nilFunc => match op, tget T t with
    | .eql, some i => match i.u with | .func _ _ _ => some (.bool true, True) | _ => none
    | .neq, some i => match i.u with | .func _ _ _ => some (.bool false, True) | _ => none
    | _, _ => none
  | _, _ => none
/-- Shifts and bits. -/
def bin2 (op : BinOp) (u v : Value) : Option (Value × Prop) :=
  match u, v with
  | .int k a, .int k' b => match op with
    | .shr => some (.int k (a.fdiv (2 ^ (min b.toNat k.bits))), 0 ≤ b)
    | .shl => some (.int k (k.wrap (a * 2 ^ (min b.toNat k.bits))), 0 ≤ b)
    | .and => if k = k' then some (.int k (k.wrap (BitVec.ofInt k.bits a &&& BitVec.ofInt k.bits b).toNat), True) else none
    | .or => if k = k' then some (.int k (k.wrap (BitVec.ofInt k.bits a ||| BitVec.ofInt k.bits b).toNat), True) else none
    | .xor => if k = k' then some (.int k (k.wrap (BitVec.ofInt k.bits a ^^^ BitVec.ofInt k.bits b).toNat), True) else none
    | .andNot => if k = k' then some (.int k (k.wrap (BitVec.ofInt k.bits a &&& ~~~ BitVec.ofInt k.bits b).toNat), True) else none
    | _ => none
  | _, _ => none
def strB (s : ByteArray) (i : Int) : Int := match s[i.toNat]? with | some b => (b.toNat : Int) | none => 0
def minI (a b : Int) : Int := if b < a then b else a
def maxI (a b : Int) : Int := if a < b then b else a
def bltin (T : Tab) (b : Builtin) (ts : List TypeId) (vs : List Value) : Option (Value × Prop) :=
  match b, ts, vs with
  | .len, t :: _, [.slice _ n _] => match tget T t with
    | some i => match i.u with | .slice _ => some (.int .i64 n, True) | _ => none
    | none => none
  | .len, t :: _, [.string s] => match tget T t with
    | some i => match i.u with | .string => some (.int .i64 s.size, True) | _ => none
    | none => none
  | .cap, t :: _, [.slice _ _ c] => match tget T t with
    | some i => match i.u with | .slice _ => some (.int .i64 c, True) | _ => none
    | none => none
  | .min, _, [.int k x, .int _ y] => some (.int k (minI x y), True)
  | .max, _, [.int k x, .int _ y] => some (.int k (maxI x y), True)
  | _, _, _ => none
def pv (T : Tab) (F : Fr) : Op → Option (Value × Prop)
  | .move x => match ev F x with | some v => some (v, True) | none => none
  | .assign x => match ev F x with | some v => some (v, True) | none => none
  | .pick c a b => match ev F c with
    | some (.bool true) => match ev F a with | some v => some (v, True) | none => none
    | some (.bool false) => match ev F b with | some v => some (v, True) | none => none
    | _ => none
  | .unOp .not _ x => match ev F x with | some (.bool b) => some (.bool (!b), True) | _ => none
  | .unOp .neg _ x => match ev F x with | some (.int k a) => some (.int k (0 - a), okI k (0 - a)) | _ => none
  | .binOp op t x y _ => match ev F x, ev F y with
    | some u, some v => match bin T op t u v with
      | some r => some r
      | none => bin2 op u v
    | _, _ => none
  | .convert s d x => match tget T s, tget T d, ev F x with
    | some _, some i, some (.int _ n) => match i.u with | .int k => some (.int k n, okI k n) | _ => none
    | _, _, _ => none
  | .extract x i => match ev F x with
    | some (.tuple vs) => match vs.toList[i]? with | some v => some (v, True) | none => none
    | _ => none
  | .field t x f => match ev F x, fld T t f with
    | some (.agg cs), some (off, _, ft) => match partL T ft cs.toList off with | some v => some (v, True) | none => none
    | _, _ => none
  | .fieldAddr t x f => match ev F x, fld T t f with
    | some (.pointer (some ⟨b, o, none⟩)), some (off, s, _) => match s with
      | 0 => none
      | _ + 1 => some (.pointer (some ⟨b, o + off, none⟩), True)
    | _, _ => none
  | .build t parts => match tget T t, evp F parts.toList with
    | some i, some vs => match i.ti.zero, i.u with
      | some z, .struct fs => match allF T fs.toList, buildL T t (vcells z) vs with | true, some cs => some (.agg cs.toArray, True) | _, _ => none
      | _, _ => none
    | _, _ => none
  | .makeInterface t x => match tget T t, ev F x with
    | some i, some v => match i.u with | .interface _ => none | _ => some (.iface t v, True)
    | _, _ => none
  | .makeFunc fn first cap => match evs F first.toList, evs F cap.toList with
    | some a, some c => some (.func fn a.toArray c.toArray, True)
    | _, _ => none
  | .nilCheck x => match ev F x with
    | some (.pointer (some a)) => some (.pointer (some a), True)
    | some (.func (.func f) a c) => some (.func (.func f) a c, True)
    | _ => none
  | .slice t x lo hi mx => match tget T t, ev F x with
    | some i, some (.slice A n c) => match i.u with
      | .slice e => match fsize T e, bnd F mx c with
        | some sz, some m => match bnd F hi n, mx, hi with
          | some h, some _, none => none
          | some h, _, _ => match bnd F lo 0 with
            | some l => some (.slice (cutA A l.toNat m.toNat sz) (h.toNat - l.toNat) (m.toNat - l.toNat), (0 ≤ l ∧ l ≤ h ∧ h ≤ m ∧ m ≤ c))
            | none => none
          | none, _, _ => none
        | _, _ => none
      | _ => none
    | some i, some (.string s) => none
    | _, _ => none
  | .indexAddr t x ix => match tget T t, ev F x, ev F ix with
    | some i, some (.pointer (some ⟨b, o, none⟩)), some (.int _ q) => match i.u with
      | .array n e => match fsize T e with
        | some sz => some (.pointer (some ⟨b, o + q.toNat * sz, none⟩), 0 ≤ q ∧ q < n)
        | none => none
      | _ => none
    | _, _, _ => none
  | .index t x ix => match tget T t, ev F x, ev F ix with
    | some i, some (.string s), some (.int _ q) => match i.u with
      | .string => some (.int .u8 (strB s q), 0 ≤ q ∧ q < s.size)
      | _ => none
    | _, _, _ => none
  | .typeAssert x xt asserted ok => match tget T asserted, ev F x with
    | some i, some (.iface t v) => match i.u with
      | .interface _ => none
      | _ => match Nat.beq t asserted, ok, i.ti.zero with
        | true, true, _ => some (.tuple #[v, .bool true], True)
        | true, false, _ => some (v, True)
        | false, true, some z => some (.tuple #[z, .bool false], True)
        | _, _, _ => none
    | some i, some .nilIface => match i.u, ok, i.ti.zero with
      | .interface _, _, _ => none
      | _, true, some z => some (.tuple #[z, .bool false], True)
      | _, _, _ => none
    | _, _ => none
  | .call { callee := .builtin b, args := args, argTypes := ts } => match evs F args.toList with
    | some vs => bltin T b ts.toList vs
    | none => none
  | _ => none

/-! ### Soundness -/
section
variable {P : Program} {T : Tab} {F : Fr} {n : Nat} {a : Act}
theorem fsize_sound (hT : TabOk P T) {t : TypeId} {s : Nat} (h : fsize T t = some s) (w : World) : (sizeOf t).run P w = .ok s w := by
  unfold fsize at h
  split at h
  · rename_i i hi
    injection h with h
    subst h
    simp [sizeOf, typeInfo, (hT.get hi).ti]
  · cases h
theorem fld_sound (hT : TabOk P T) {t : TypeId} {f off s : Nat} {ft : TypeId} (h : fld T t f = some (off, s, ft)) :
    ∃ fs x, P.underlying t = some (.struct fs) ∧ fs[f]? = some x ∧ x.offset = off ∧ x.type = ft ∧ fsize T ft = some s := by
  unfold fld at h
  split at h
  · rename_i i hi
    split at h
    · rename_i fs hu
      split at h
      · rename_i x hx
        split at h
        · rename_i s' hs
          injection h with h
          injection h with h1 h2
          injection h2 with h2 h3
          subst h1; subst h2; subst h3
          exact ⟨fs, x, by rw [← hu]; exact (hT.get hi).u, by simpa using hx, rfl, rfl, hs⟩
        · cases h
      · cases h
    · cases h
  · cases h
theorem part_sound (hT : TabOk P T) {t : TypeId} {cs : Array Value} {off : Nat} {v : Value} (h : partL T t cs.toList off = some v) (w : World) : (part t cs off).run P w = .ok v w := by
  unfold partL at h
  split at h
  · rename_i i hi
    have hu := (hT.get hi).u
    have hti := (hT.get hi).ti
    have hag : (isAgg t).run P w = .ok (isAggD i.u) w := by
      unfold isAgg
      simp only [Sem.run_bind, run_underlying hu, Result.andThen_ok]
      cases hd : i.u <;> simp [isAggD, Sem.run_pure]
    cases hb : isAggD i.u with
    | true =>
      rw [hb] at h hag
      injection h with h
      subst h
      simp only [part, Sem.run_bind, hag, Result.andThen_ok, if_true, sizeOf, typeInfo, run_program, hti]
      simp
      rw [← Array.toList_inj]
      simp [List.extract_eq_take_drop]
    | false =>
      rw [hb] at h hag
      simp only [part, Sem.run_bind, hag, Result.andThen_ok]
      have : cs[off]? = some v := by simpa using h
      simp [this]
  · cases h

theorem equal_succ (t : TypeId) (x y : Value) : Op.equal t x y = Op.equalIn (9999 + 1) t x y := rfl
section
variable (d : Nat) (t : TypeId) (w : World)
theorem eqIn_bool (h : P.underlying t = some .bool) (a b : Bool) : (Op.equalIn (d + 1) t (.bool a) (.bool b)).run P w = .ok (a == b) w := by
  simp [Op.equalIn, run_underlying h]
theorem eqIn_int {k0 : IntKind} (h : P.underlying t = some (.int k0)) (k : IntKind) (a b : Int) : (Op.equalIn (d + 1) t (.int k a) (.int k b)).run P w = .ok (decide (a = b)) w := by
  simp [Op.equalIn, run_underlying h]; rfl
theorem eqIn_ptr {e : TypeId} (h : P.underlying t = some (.pointer e)) (q : Option Addr) : (Op.equalIn (d + 1) t (.pointer q) (.pointer none)).run P w = .ok q.isNone w := by
  cases q <;> simp [Op.equalIn, run_underlying h]
theorem eqIn_slice {e : TypeId} (h : P.underlying t = some (.slice e)) (q : Option Addr) (n c m b : Nat) : (Op.equalIn (d + 1) t (.slice q n c) (.slice none m b)).run P w = .ok q.isNone w := by
  cases q <;> simp [Op.equalIn, run_underlying h]
theorem eqIn_iface {e : Array (String × TypeId)} (h : P.underlying t = some (.interface e)) (q : TypeId) (v : Value) : (Op.equalIn (d + 1) t (.iface q v) .nilIface).run P w = .ok false w := by
  simp [Op.equalIn, run_underlying h]
theorem eqIn_func {e f : Array TypeId} {g : Bool} (h : P.underlying t = some (.func e f g)) (q : Fn) (x y : Array Value) : (Op.equalIn (d + 1) t (.func q x y) .nilFunc).run P w = .ok false w := by
  simp [Op.equalIn, run_underlying h]
theorem eqIn_func0 {e f : Array TypeId} {g : Bool} (h : P.underlying t = some (.func e f g)) : (Op.equalIn (d + 1) t .nilFunc .nilFunc).run P w = .ok true w := by
  simp [Op.equalIn, run_underlying h]
end
theorem bin_sound (hT : TabOk P T) {op : BinOp} {t : TypeId} {x y : Operand} {u v r : Value} {p : Prop} (h : bin T op t u v = some (r, p)) (hp : p) (hx : a.eval x = u) (hy : a.eval y = v) (w : World) :
    (do eqGuard op t x y (a.eval x) (a.eval y); Go.binOp op t (a.eval x) (a.eval y) : Sem Value).run P w = .ok r w := by
  rw [hx, hy]
  unfold bin at h
  split at h
  · -- ints
    rename_i k m k' m'
    split at h <;> first | (cases h; done) | skip
    all_goals (split at h <;> first | (cases h; done) | skip)
    all_goals (rename_i hk; subst hk; injection h with h; injection h with h1 h2; subst h1; subst h2)
    all_goals (simp only [eqGuard, Go.binOp, Sem.run_bind])
    all_goals first
      | (simp [Op.intArith, wrap_ok hp]; done)
      | (simp [Op.intCmp, decide_eq_decide]; done)
      | skip
    · obtain ⟨h0, h1, h2⟩ := hp
      have hb : m' ≠ 0 := by omega
      simp [Op.intDiv, hb]
      rw [Int.tdiv_eq_ediv_of_nonneg h0, wrap_ok h2]
    · simp [Op.intDiv, hp]
    · simp [Op.intCmp]; rfl
    · simp [Op.intCmp]; rfl
  case h_2 =>
    rename_i b1 b2
    split at h
    · rename_i i hi
      split at h
      · rename_i hu
        have hu' := (hT.get hi).u; rw [hu] at hu'
        injection h with h; injection h with h1 h2; subst h1
        simp only [eqGuard, Go.binOp, Sem.run_bind, equal_succ, eqIn_bool _ _ _ hu']; simp
      · cases h
    · rename_i i hi
      split at h
      · rename_i hu
        have hu' := (hT.get hi).u; rw [hu] at hu'
        injection h with h; injection h with h1 h2; subst h1
        simp only [eqGuard, Go.binOp, Sem.run_bind, equal_succ, eqIn_bool _ _ _ hu']; simp
      · cases h
    · cases h
  case h_3 =>
    rename_i q
    split at h
    · rename_i i hi
      split at h
      · rename_i e hu
        have hu' := (hT.get hi).u; rw [hu] at hu'
        injection h with h; injection h with h1 h2; subst h1
        simp only [eqGuard, Go.binOp, Sem.run_bind, equal_succ, eqIn_ptr _ _ _ hu']; simp
      · cases h
    · rename_i i hi
      split at h
      · rename_i e hu
        have hu' := (hT.get hi).u; rw [hu] at hu'
        injection h with h; injection h with h1 h2; subst h1
        simp only [eqGuard, Go.binOp, Sem.run_bind, equal_succ, eqIn_ptr _ _ _ hu']; simp
      · cases h
    · cases h
  case h_4 =>
    rename_i q _ _ _ _
    split at h
    · rename_i i hi
      split at h
      · rename_i e hu
        have hu' := (hT.get hi).u; rw [hu] at hu'
        injection h with h; injection h with h1 h2; subst h1
        simp only [eqGuard, Go.binOp, Sem.run_bind, equal_succ, eqIn_slice _ _ _ hu']; simp
      · cases h
    · rename_i i hi
      split at h
      · rename_i e hu
        have hu' := (hT.get hi).u; rw [hu] at hu'
        injection h with h; injection h with h1 h2; subst h1
        simp only [eqGuard, Go.binOp, Sem.run_bind, equal_succ, eqIn_slice _ _ _ hu']; simp
      · cases h
    · cases h
  case h_5 =>
    rename_i xs ys
    split at h
    · rename_i i hi
      split at h
      · rename_i b hg hb
        obtain ⟨hg1, hg2⟩ := (hT.get hi).guard hg
        injection h with h; injection h with h1 h2; subst h1
        have := hg2 w xs ys b hb
        simp [eqGuard, Go.binOp, hg1, this]
      · cases h
    · rename_i i hi
      split at h
      · rename_i b hg hb
        obtain ⟨hg1, hg2⟩ := (hT.get hi).guard hg
        injection h with h; injection h with h1 h2; subst h1
        have := hg2 w xs ys b hb
        simp [eqGuard, Go.binOp, hg1, this]
      · cases h
    · cases h
  case h_6 => cases h
  case h_7 =>
    split at h
    · rename_i i hi
      split at h
      · rename_i e hu
        have hu' := (hT.get hi).u; rw [hu] at hu'
        injection h with h; injection h with h1 h2; subst h1
        simp only [eqGuard, Go.binOp, Sem.run_bind, equal_succ, eqIn_iface _ _ _ hu']; simp
      · cases h
    · rename_i i hi
      split at h
      · rename_i e hu
        have hu' := (hT.get hi).u; rw [hu] at hu'
        injection h with h; injection h with h1 h2; subst h1
        simp only [eqGuard, Go.binOp, Sem.run_bind, equal_succ, eqIn_iface _ _ _ hu']; simp
      · cases h
    · cases h
  case h_8 =>
    split at h
    · rename_i i hi
      split at h
      · rename_i hu
        have hu' := (hT.get hi).u; rw [hu] at hu'
        injection h with h; injection h with h1 h2; subst h1
        simp only [eqGuard, Go.binOp, Sem.run_bind, equal_succ, eqIn_func _ _ _ hu']; simp
      · cases h
    · rename_i i hi
      split at h
      · rename_i hu
        have hu' := (hT.get hi).u; rw [hu] at hu'
        injection h with h; injection h with h1 h2; subst h1
        simp only [eqGuard, Go.binOp, Sem.run_bind, equal_succ, eqIn_func _ _ _ hu']; simp
      · cases h
    · cases h
  case h_9 =>
    split at h
    · rename_i i hi
      split at h
      · rename_i hu
        have hu' := (hT.get hi).u; rw [hu] at hu'
        injection h with h; injection h with h1 h2; subst h1
        simp only [eqGuard, Go.binOp, Sem.run_bind, equal_succ, eqIn_func0 _ _ _ hu']; simp
      · cases h
    · rename_i i hi
      split at h
      · rename_i hu
        have hu' := (hT.get hi).u; rw [hu] at hu'
        injection h with h; injection h with h1 h2; subst h1
        simp only [eqGuard, Go.binOp, Sem.run_bind, equal_succ, eqIn_func0 _ _ _ hu']; simp
      · cases h
    · cases h
  case h_10 => cases h

theorem bin2_sound {op : BinOp} {t : TypeId} {x y : Operand} {u v r : Value} {p : Prop} (h : bin2 op u v = some (r, p)) (hp : p) (hx : a.eval x = u) (hy : a.eval y = v) (w : World) :
    (do eqGuard op t x y (a.eval x) (a.eval y); Go.binOp op t (a.eval x) (a.eval y) : Sem Value).run P w = .ok r w := by
  rw [hx, hy]
  unfold bin2 at h
  split at h
  · rename_i k m k' m'
    split at h
    · injection h with h; injection h with h1 h2; subst h1; subst h2
      simp [eqGuard, Go.binOp, Op.shift, show ¬ m' < 0 by omega]
    · injection h with h; injection h with h1 h2; subst h1; subst h2
      simp [eqGuard, Go.binOp, Op.shift, show ¬ m' < 0 by omega]
    all_goals first
      | (split at h
         · rename_i hk
           subst hk
           injection h with h; injection h with h1 h2; subst h1
           simp [eqGuard, Go.binOp, Op.intBits]
         · cases h)
      | cases h
  · cases h
theorem bltin_sound (hT : TabOk P T) {b : Builtin} {ts : Array TypeId} {ty : TypeId} {cs : Array Bool} {vs : List Value} {r : Value} {p : Prop} (h : bltin T b ts.toList vs = some (r, p)) (hp : p) (w : World) :
    (Go.builtin b ts ty cs vs.toArray).run P w = .ok (.value r) w := by
  unfold bltin at h
  split at h
  · rename_i t rest A n c hts
    split at h
    · rename_i i hi
      split at h
      · rename_i e hu
        have hu' := (hT.get hi).u; rw [hu] at hu'
        injection h with h; injection h with h1 h2; subst h1
        have h0 : ts[0]? = some t := by rw [← Array.getElem?_toList, hts]; rfl
        simp [Go.builtin, Builtin.len_, h0, run_underlying hu', goInt]
      · cases h
    · cases h
  · rename_i t rest s hts
    split at h
    · rename_i i hi
      split at h
      · rename_i hu
        have hu' := (hT.get hi).u; rw [hu] at hu'
        injection h with h; injection h with h1 h2; subst h1
        have h0 : ts[0]? = some t := by rw [← Array.getElem?_toList, hts]; rfl
        simp [Go.builtin, Builtin.len_, h0, run_underlying hu', goInt]
      · cases h
    · cases h
  · rename_i t rest A n c hts
    split at h
    · rename_i i hi
      split at h
      · rename_i e hu
        have hu' := (hT.get hi).u; rw [hu] at hu'
        injection h with h; injection h with h1 h2; subst h1
        have h0 : ts[0]? = some t := by rw [← Array.getElem?_toList, hts]; rfl
        simp [Go.builtin, Builtin.cap_, h0, run_underlying hu', goInt]
      · cases h
    · cases h
  · injection h with h; injection h with h1 h2; subst h1
    simp [Go.builtin, Builtin.min_, Builtin.min2, minI]
  · injection h with h; injection h with h1 h2; subst h1
    simp [Go.builtin, Builtin.max_, Builtin.max2, maxI]
  · cases h
theorem fill_sound (hT : TabOk P T) {t : TypeId} (place : Nat → Option (Nat × Nat)) (hpl : ∀ i off s ft, fld T t i = some (off, s, ft) → place i = some (off, s)) :
    ∀ (l : List (Nat × Value)) (cs ds : List Value), buildL T t cs l = some ds → Instr.fill place cs.toArray l = some ds.toArray := by
  intro l
  induction l with
  | nil => intro cs ds h; simp [buildL] at h; simp [Instr.fill, h]
  | cons iv r ih =>
    obtain ⟨i, v⟩ := iv
    intro cs ds h
    simp only [buildL] at h
    split at h
    · rename_i off s ft hf
      split at h
      · rename_i h1 h2
        have h1' : (vcells v).length = s := Nat.eq_of_beq_eq_true h1
        have h2' : off + (vcells v).length ≤ cs.length := by simpa using h2
        simp only [Instr.fill, hpl _ _ _ _ hf, vcells_eq]
        have hc : ¬ ((vcells v).toArray.size ≠ s ∨ off + (vcells v).toArray.size > cs.toArray.size) := by simp [h1']; omega
        have hz := foldl_put (vcells v) cs off 0 (by simpa using h2')
        simp only [Nat.add_zero] at hz
        rw [if_neg (by simp [h1']; omega)]
        have hzz : (vcells v).toArray.zipIdx = ((vcells v).zipIdx 0).toArray := by rw [← Array.toList_inj]; simp
        rw [hzz, ← Array.foldl_toList]
        simp only [List.toList_toArray]
        rw [hz]
        exact ih _ _ h
      · cases h
    · cases h

theorem places_list (hT : TabOk P T) (w : World) : ∀ (l : List Field), allF T l = true → (l.mapM fun (f : Field) => (do pure (f.offset, ← sizeOf f.type) : Sem (Nat × Nat))).run P w = .ok (l.map fun (f : Field) => (f.offset, ((P.info? f.type).map (·.size)).getD 0)) w
  | [], _ => by simp
  | x :: r, h => by
    simp only [allF] at h
    split at h
    · rename_i s hs
      have h1 := fsize_sound hT hs w
      have h2 := places_list hT w r h
      have h3 : ((P.info? x.type).map (·.size)).getD 0 = s := by
        unfold fsize at hs
        split at hs
        · rename_i j hj
          injection hs with hs
          subst hs
          simp [(hT.get hj).ti]
        · cases hs
      simp only [List.mapM_cons, Sem.run_bind, h1, Result.andThen_ok, Sem.run_pure, h2, List.map_cons, h3]
    · cases h
theorem places_run (hT : TabOk P T) (fs : Array Field) (h : allF T fs.toList = true) (w : World) : (fs.mapM fun (f : Field) => (do pure (f.offset, ← sizeOf f.type) : Sem (Nat × Nat))).run P w = .ok (fs.map fun (f : Field) => (f.offset, ((P.info? f.type).map (·.size)).getD 0)) w := by
  rw [Array.mapM_eq_mapM_toList, Sem.run_map, places_list hT w fs.toList h]
  simp only [Result.andThen_ok, ← Array.toList_map]
theorem evp_sound (ha : Knows n a F) : ∀ {l : List (Nat × Operand)} {vs : List (Nat × Value)}, evp F l = some vs → l.map (fun (i, x) => (i, a.eval x)) = vs := by
  intro l
  induction l with
  | nil => intro vs h; simp [evp] at h; simp [h]
  | cons ix r ih =>
    obtain ⟨i, x⟩ := ix
    intro vs h
    simp only [evp] at h
    split at h
    · rename_i v us hv hr
      injection h with h
      subst h
      have h2 := ih hr
      simp only [List.map_cons, ev_sound ha hv]
      rw [← h2]
    · cases h
theorem evs_arr (ha : Knows n a F) {l : Array Operand} {vs : List Value} (h : evs F l.toList = some vs) : l.map a.eval = vs.toArray := by
  have := evs_sound ha h
  rw [← this, ← Array.toList_map]
theorem bnd_sound (ha : Knows n a F) {o : Option Operand} {d m : Int} (h : bnd F o d = some m) : (o = none ∧ m = d) ∨ ∃ x k, o = some x ∧ a.eval x = .int k m := by
  unfold bnd at h
  split at h
  · injection h with h; exact .inl ⟨rfl, h.symm⟩
  · rename_i x
    split at h
    · rename_i k q hq
      injection h with h
      subst h
      exact .inr ⟨x, k, rfl, ev_sound ha hq⟩
    · cases h
theorem sliceBound_ok (k : IntKind) (i : Int) (y : Nat) (code : BoundsCode) (h0 : 0 ≤ i) (h1 : i ≤ y) (w : World) : (Instr.sliceBound (.int k i) y code).run P w = .ok i.toNat w := by
  simp [Instr.sliceBound, asIntOf, h0, h1]

theorem bounds_run (ha : Knows n a F) {lo hi mx : Option Operand} {len c : Nat} {l h' m : Int} (hm : bnd F mx c = some m) (hh : bnd F hi len = some h') (hl : bnd F lo 0 = some l)
    (hne : ∀ v, mx = some v → hi = none → False) (p1 : 0 ≤ l) (p2 : l ≤ h') (p3 : h' ≤ m) (p4 : m ≤ c) (w : World) :
    (Instr.sliceBounds true len c (lo.map a.eval) (hi.map a.eval) (mx.map a.eval)).run P w = .ok (l.toNat, h'.toNat, m.toNat) w := by
  have em : ((m.toNat : Nat) : Int) = m := Int.toNat_of_nonneg (by omega)
  have eh : ((h'.toNat : Nat) : Int) = h' := Int.toNat_of_nonneg (by omega)
  rcases bnd_sound ha hm with ⟨rfl, rfl⟩ | ⟨xm, km, rfl, hxm⟩ <;> rcases bnd_sound ha hh with ⟨rfl, rfl⟩ | ⟨xh, kh, rfl, hxh⟩ <;>
    rcases bnd_sound ha hl with ⟨rfl, rfl⟩ | ⟨xl, kl, rfl, hxl⟩ <;>
    first
    | (exfalso; exact hne _ rfl rfl)
    | (simp only [Instr.sliceBounds, Option.map_none, Option.map_some, Sem.run_bind, Sem.run_pure, Result.andThen_ok, Option.isSome_some, Option.isSome_none, *]
       first
       | (rw [sliceBound_ok _ _ _ _ (by omega) (by omega)]; simp only [Result.andThen_ok]; rw [sliceBound_ok _ _ _ _ (by omega) (by omega)]; simp only [Result.andThen_ok]; rw [sliceBound_ok _ _ _ _ (by omega) (by omega)]; simp; done)
       | (rw [sliceBound_ok _ _ _ _ (by omega) (by omega)]; simp only [Result.andThen_ok]; rw [sliceBound_ok _ _ _ _ (by omega) (by omega)]; simp; done)
       | (rw [sliceBound_ok _ _ _ _ (by omega) (by omega)]; simp; done)
       | (simp; done))

theorem pv_sound (hT : TabOk P T) {op : Op} {v : Value} {p : Prop} (h : pv T F op = some (v, p)) (hp : p) (ha : Knows n a F) (dst : Option Nat) (ty : TypeId) (pos : String) (af : Array Edge) (w : World) :
    (execOp a.eval ⟨dst, op, ty, pos, af, none⟩).run P w = .ok (.value v) w := by
  unfold pv at h
  split at h
  · split at h
    · rename_i x u hx
      injection h with h; injection h with h1 h2; subst h1
      simp [execOp, ev_sound ha hx]
    · cases h
  · split at h
    · rename_i x u hx
      injection h with h; injection h with h1 h2; subst h1
      simp [execOp, ev_sound ha hx]
    · cases h
  · rename_i c x y
    split at h
    · rename_i hc
      split at h
      · rename_i u hx
        injection h with h; injection h with h1 h2; subst h1
        simp [execOp, ev_sound ha hc, ev_sound ha hx, asBool]
      · cases h
    · rename_i hc
      split at h
      · rename_i u hx
        injection h with h; injection h with h1 h2; subst h1
        simp [execOp, ev_sound ha hc, ev_sound ha hx, asBool]
      · cases h
    · cases h
  · split at h
    · rename_i b hb
      injection h with h; injection h with h1 h2; subst h1
      simp [execOp, ev_sound ha hb, Op.unary]
    · cases h
  · split at h
    · rename_i k m hb
      injection h with h; injection h with h1 h2; subst h1; subst h2
      simp only [execOp, ev_sound ha hb, Op.unary, Op.intArith, wrap_ok hp, Sem.run_bind, Sem.run_pure, Result.andThen_ok]
    · cases h
  · rename_i op t x y yt
    split at h
    · rename_i u v' hu hv
      split at h
      · rename_i r0 hr0
        injection h with h
        subst h
        have := bin_sound hT hr0 hp (ev_sound ha hu) (ev_sound ha hv) w
        simp only [execOp]
        simp only [Sem.run_bind] at this ⊢
        rw [this]
        simp
      · have := bin2_sound (t := t) (x := x) (y := y) h hp (ev_sound ha hu) (ev_sound ha hv) w (P := P)
        simp only [execOp]
        simp only [Sem.run_bind] at this ⊢
        rw [this]
        simp
    · cases h
  · split at h
    · rename_i i1 i k m h1 h2 hx
      split at h
      · rename_i k' hu
        injection h with h; injection h with h3 h4; subst h3; subst h4
        have hd := (hT.get h2).u; rw [hu] at hd
        have hs := (hT.get h1).u
        simp only [execOp, ev_sound ha hx, convert, Sem.run_bind, run_underlying hs, run_underlying hd, Result.andThen_ok]
        cases i1.u <;> simp [Conv.intToInt, wrap_ok hp]
      · cases h
    · cases h
  · rename_i x ix
    split at h
    · rename_i vs hx
      split at h
      · rename_i u hi
        injection h with h; injection h with h3 h4; subst h3
        have hi' : vs[ix]? = some u := by simpa using hi
        simp [execOp, ev_sound ha hx, Instr.extract, hi']
      · cases h
    · cases h
  · split at h
    · rename_i cs off s ft hx hf
      split at h
      · rename_i u hpt
        injection h with h; injection h with h3 h4; subst h3
        obtain ⟨fs, x', hu, hx', ho, hty, hs⟩ := fld_sound hT hf
        have := part_sound hT hpt w
        subst ho; subst hty
        simp [execOp, ev_sound ha hx, Instr.field, run_underlying hu, hx', asAgg, this]
      · cases h
    · cases h
  · split at h
    · rename_i b o off s ft hx hf
      split at h
      · cases h
      · rename_i s'
        injection h with h; injection h with h3 h4; subst h3
        obtain ⟨fs, x', hu, hx', ho, hty, hs⟩ := fld_sound hT hf
        subst ho; subst hty
        have hsz := fsize_sound hT hs w
        simp [execOp, ev_sound ha hx, Instr.fieldAt, run_underlying hu, hx', Instr.sureAddr, fieldPlace, hsz]
        unfold Addr.add
        split
        · rename_i h0; rw [h0]; simp
        · rfl
    · cases h
  · rename_i t parts
    split at h
    · rename_i i vs hi hvs
      split at h
      · rename_i z fs hz hu
        split at h
        · rename_i cs hall hcs
          injection h with h; injection h with h3 h4; subst h3
          have hd := (hT.get hi).u; rw [hu] at hd
          have hti := (hT.get hi).ti
          have hev := evp_sound ha hvs
          have hpl : ∀ i off s ft, fld T t i = some (off, s, ft) → (Option.map (fun (f : Field) => (f.offset, ((P.info? f.type).map (·.size)).getD 0)) fs[i]?) = some (off, s) := fun i off s ft hf => by
            obtain ⟨fs', x', hu', hx', ho, hty, hs⟩ := fld_sound hT hf
            rw [hd] at hu'
            injection hu' with hu'; injection hu' with hu'; subst hu'
            subst ho; subst hty
            unfold fsize at hs
            split at hs
            · rename_i j hj
              injection hs with hs
              subst hs
              simp [hx', (hT.get hj).ti]
            · cases hs
          have hf := fill_sound hT _ hpl vs _ _ hcs
          have hplaces := places_run hT fs hall w
          have hev' : (parts.map fun (i, x) => (i, a.eval x)).toList = vs := by rw [← hev]; simp
          simp only [execOp, Instr.build, Sem.run_bind, zeroValue, typeInfo, run_program, hti, Result.andThen_ok, hz, Sem.run_pure, run_underlying hd, hplaces, hev', vcells_eq]
          have hfun : (fun x : Nat => (Array.map (fun (f : Field) => (f.offset, ((P.info? f.type).map (·.size)).getD 0)) fs)[x]?) = (fun i => (Option.map (fun (f : Field) => (f.offset, ((P.info? f.type).map (·.size)).getD 0)) fs[i]?)) := by
            funext i; simp
          rw [hfun, hf]
          simp
        · cases h
      · cases h
    · cases h
  · split at h
    · rename_i i u hi hu
      split at h
      · cases h
      · rename_i hni
        injection h with h; injection h with h3 h4; subst h3
        have hd := (hT.get hi).u
        simp only [execOp, ev_sound ha hu, Instr.makeInterface, Sem.run_bind, run_underlying hd, Result.andThen_ok]
        cases hq : i.u <;> first | (exfalso; exact hni _ hq) | simp
    · cases h
  · split at h
    · rename_i x c hx hc
      injection h with h; injection h with h3 h4; subst h3
      simp [execOp, Instr.makeFunc, evs_arr ha hx, evs_arr ha hc]
    · cases h
  · split at h
    · rename_i q hq
      injection h with h; injection h with h3 h4; subst h3
      simp [execOp, ev_sound ha hq]
    · rename_i f x c hq
      injection h with h; injection h with h3 h4; subst h3
      simp [execOp, ev_sound ha hq]
    · cases h
  · rename_i t x lo hi mx
    split at h
    · rename_i i A n c hi' hx
      split at h
      · rename_i e hu
        split at h
        · rename_i sz m hsz hm
          split at h
          · cases h
          · rename_i h' hne hh
            split at h
            · rename_i l hl
              injection h with h; injection h with h3 h4; subst h3; subst h4
              obtain ⟨p1, p2, p3, p4⟩ := hp
              have hd := (hT.get hi').u; rw [hu] at hd
              have hs := fsize_sound hT hsz w
              have hb := bounds_run (P := P) ha hm hh hl (fun v e1 e2 => hne v e1 e2) p1 p2 p3 p4 w
              simp only [execOp, ev_sound ha hx, Instr.sliceAt, Sem.run_bind, run_underlying hd, Result.andThen_ok, Instr.slice, hb, hs, Sem.run_pure, cutA]
            · cases h
          · cases h
        · cases h
      · cases h
    · cases h
    · cases h
  · split at h
    · rename_i i b o kq q hi hx hix
      split at h
      · rename_i n' e hu
        split at h
        · rename_i sz hsz
          injection h with h; injection h with h3 h4; subst h3; subst h4
          have hd := (hT.get hi).u; rw [hu] at hd
          have hs := fsize_sound hT hsz w
          have hlt : 0 ≤ q ∧ q < (n' : Int) := hp
          simp [execOp, ev_sound ha hx, ev_sound ha hix, Instr.indexAt, asIntOf, run_underlying hd, Instr.sureAddr, hs, hlt]
          unfold Addr.add
          split
          · rename_i h0; rw [h0]; simp
          · rfl
        · cases h
      · cases h
    · cases h
  · split at h
    · rename_i i s kq q hi hx hix
      split at h
      · rename_i hu
        injection h with h; injection h with h3 h4; subst h3; subst h4
        have hd := (hT.get hi).u; rw [hu] at hd
        obtain ⟨p1, p2⟩ := hp
        have hlt : q.toNat < s.size := by omega
        have hget : s[q.toNat]? = some (s[q.toNat]'hlt) := getElem?_pos s q.toNat hlt
        simp only [execOp, ev_sound ha hx, ev_sound ha hix, Instr.index, asIntOf, Sem.run_bind, Sem.run_pure, Result.andThen_ok, run_underlying hd, if_pos p1, hget, strB]
      · cases h
    · cases h
  · split at h
    · rename_i i tt v0 hi hx
      split at h
      · cases h
      · rename_i hni
        have hd := (hT.get hi).u
        have hti := (hT.get hi).ti
        split at h
        · rename_i hb
          have e := Nat.eq_of_beq_eq_true hb
          injection h with h; injection h with h3 h4; subst h3; subst e
          simp only [execOp, ev_sound ha hx, Instr.typeAssert, Sem.run_bind, run_underlying hd, Result.andThen_ok]
          cases hq : i.u <;> first | (exfalso; exact hni _ hq) | simp
        · rename_i hb
          have e := Nat.eq_of_beq_eq_true hb
          injection h with h; injection h with h3 h4; subst h3; subst e
          simp only [execOp, ev_sound ha hx, Instr.typeAssert, Sem.run_bind, run_underlying hd, Result.andThen_ok]
          cases hq : i.u <;> first | (exfalso; exact hni _ hq) | simp
        · rename_i z hb hz
          have e := Nat.ne_of_beq_eq_false hb
          injection h with h; injection h with h3 h4; subst h3
          simp only [execOp, ev_sound ha hx, Instr.typeAssert, Sem.run_bind, run_underlying hd, Result.andThen_ok]
          cases hq : i.u <;> first | (exfalso; exact hni _ hq) | simp [e, zeroValue, typeInfo, hti, hz]
        · cases h
    · rename_i i hi hx
      split at h
      · cases h
      · rename_i z hni hz _
        injection h with h; injection h with h3 h4; subst h3
        have hd := (hT.get hi).u
        have hti := (hT.get hi).ti
        simp only [execOp, ev_sound ha hx, Instr.typeAssert, Sem.run_bind, run_underlying hd, Result.andThen_ok]
        cases hq : i.u <;> first | (exfalso; exact hni _ hq) | simp [zeroValue, typeInfo, hti, hz]
      · cases h
    · cases h
  · split at h
    · rename_i vs hvs
      rename_i b args ts _
      have hb := bltin_sound hT (ty := ty) (cs := args.map fun | .const _ => true | _ => false) h hp w
      have hargs := evs_arr ha hvs
      simp only [execOp, resolve, Sem.run_bind, Sem.run_pure, Result.andThen_ok, invoke, hargs]
      exact hb
    · cases h
  · cases h
end
end Eng
end Go.Proofs.Ytdfibmbedjpcgaa
