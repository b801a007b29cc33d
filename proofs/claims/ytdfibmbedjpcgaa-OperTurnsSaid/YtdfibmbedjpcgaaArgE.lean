/- Arguments that are a row of runes, two numbers, a place, a region, opened. -/
import Derived.Test.YtdfibmbedjpcgaaArg
import Derived.Test.YtdfibmbedjpcgaaR9
import Derived.Lib.SmallJoins
set_option linter.unusedVariables false
set_option linter.unusedSimpArgs false
set_option maxRecDepth 100000
namespace Go.Proofs.Ytdfibmbedjpcgaa
open Go Go.RowKit Go.ChangeShapes Go.WideShapes Go.Deep Eng

theorem cells21 : Try.prog.cellsOf 21 = 1 := by kernel_rfl
theorem cells3' : Try.prog.cellsOf 3 = 1 := by kernel_rfl
theorem cells43' : Try.prog.cellsOf 43 = 2 := by kernel_rfl
theorem cells74 : Try.prog.cellsOf 74 = 2 := by kernel_rfl
theorem cells51 : Try.prog.cellsOf 51 = 5 := by kernel_rfl
theorem cells96 : Try.prog.cellsOf 96 = 2 := by kernel_rfl
/-- A row of runes. -/
structure RowOf (w : World) (A : Option Addr) (xs : List Int) (c : Nat) : Prop where
  at_ : Cells w A (i32s xs)
  cap : xs.length ≤ c
  len : xs.length ≤ 35184372087808
  wf : ∀ n ∈ xs, -2147483648 ≤ n ∧ n ≤ 2147483647
theorem arg_row {H : Type} {enc : TypeId × Value → H} {W : World} {a0 : Option Addr} {len cap : Nat} {d : DataW H} {ps : List MemPlace} {ts : List TypeId} {ds : List (DataW H)} {j : Nat}
    (hsz : (DataW.weightsEach Try.prog ts ds).all (· ≤ reachBytes) = true) (ht : ts[j]? = some 48) (hd : ds[j]? = some d) (h0 : DataW.Trod enc Try.prog W 0 (fun _ => true) true 48 (.slice a0 len cap) d ps) :
    ∃ xs, xs.length = len ∧ RowOf W a0 xs cap := by
  obtain ⟨fuel, hf⟩ := h0
  rcases open_ints Try.underlying48 Try.underlying21 cells21 hf with ⟨hcs, hx⟩ | ⟨a, l, c, zs, hcs, _, hl, hm, hz, hx, hcell, hwf⟩
  · simp [Value.cells] at hcs
    obtain ⟨rfl, rfl, rfl⟩ := hcs
    exact ⟨[], rfl, Cells.nil _ _, by simp, by simp, fun n hn => by simp at hn⟩
  · simp [Value.cells] at hcs
    obtain ⟨rfl, rfl, rfl⟩ := hcs
    simp only [Prod.mk.injEq] at hx
    obtain ⟨rfl, _⟩ := hx
    simp only [if_true] at hz
    have hlen : (zs.take len).length = len := by rw [List.length_take]; omega
    refine ⟨zs.take len, hlen, fun q v hq => ?_, by omega, ?_, fun n hn => bounds_i32 (hwf n (List.mem_of_mem_take hn))⟩
    · have hql : q < len := by
        have := (List.getElem?_eq_some_iff.1 hq).1
        rwa [i32s_length, hlen] at this
      have hv : v = .int .i32 (zs.getD q 0) := by
        rw [i32s, List.getElem?_map, List.getElem?_take, if_pos hql] at hq
        rw [List.getD_eq_getElem?_getD]
        have hqz : q < zs.length := by omega
        rw [List.getElem?_eq_getElem hqz] at hq ⊢
        simpa using hq.symm
      exact ⟨a, rfl, by rw [hv]; exact hcell q (by omega)⟩
    · have := sized_slice hsz ht hd Try.underlying48
      rw [show Try.prog.bytesOf 21 = 4 by kernel_rfl, lits_length, lits_length, hlen] at this
      unfold reachBytes at this
      omega
theorem okWide_array {P : Program} {w : World} {r : Reach} {base : Nat} {t : TypeId} {v : Value} {n : Nat} {e : TypeId} (ht : P.underlying t = some (.array n e)) (h : Value.okWide P w r base t v) : ∃ cs, v = .agg cs ∧ cs.size = P.cellsOf t := by
  simp only [Value.okWide, ht] at h
  obtain ⟨cs, h1, h2, _⟩ := h
  exact ⟨cs, h1, h2⟩
def i64ok (n : Int) : Prop := -9223372036854775808 ≤ n ∧ n ≤ 9223372036854775807
theorem arg_arr2 {H : Type} {enc : TypeId × Value → H} {W : World} {r : Reach} {b0 : Nat} {v : Value} {d : DataW H} {ps : List MemPlace} (hv : Value.okWide Try.prog W r b0 74 v) (h : DataW.Trod enc Try.prog W 0 (fun _ => true) true 74 v d ps) :
    ∃ a b : Int, v = .agg #[.int .i64 a, .int .i64 b] ∧ i64ok a ∧ i64ok b := by
  obtain ⟨cs, rfl, hsz⟩ := okWide_array Try.underlying74 hv
  rw [cells74] at hsz
  obtain ⟨cs⟩ := cs
  match cs, hsz with
  | [c0, c1], _ =>
  obtain ⟨fuel, hf⟩ := h
  obtain ⟨xs, m, _, _, hl, hlen, hx⟩ := DataW.trod_array Try.underlying74 hf
  match xs, hlen with
  | [x0, x1], _ =>
  have i0 : DataW.trod enc Try.prog W 0 (fun _ => true) true m 3 [c0] = some x0 := by simpa [cells3', Value.cells] using hx 0 (by decide)
  have i1 : DataW.trod enc Try.prog W 0 (fun _ => true) true m 3 [c1] = some x1 := by simpa [cells3', Value.cells] using hx 1 (by decide)
  obtain ⟨a, e0, _, w0⟩ := DataW.trod_int Try.underlying3 i0
  obtain ⟨b, e1, _, w1⟩ := DataW.trod_int Try.underlying3 i1
  have e0 : c0 = .int .i64 a := by simpa using e0
  have e1 : c1 = .int .i64 b := by simpa using e1
  subst e0; subst e1
  exact ⟨a, b, rfl, bounds_i64 w0, bounds_i64 w1⟩
theorem trod_pos {H : Type} {enc : TypeId × Value → H} {W : World} {n : Nat} {a b : Value} {y : DataW H × List MemPlace} (h : DataW.trod enc Try.prog W 0 (fun _ => true) true n 43 [a, b] = some y) : ∃ l c : Int, a = .int .i64 l ∧ b = .int .i64 c ∧ i64ok l ∧ i64ok c := by
  obtain ⟨xs, m, _, _, hl, hlen, hx⟩ := DataW.trod_struct Try.underlying43 h
  have hlen' : xs.length = 2 := hlen
  match xs, hlen' with
  | [x0, x1], _ =>
  have i0 : DataW.trod enc Try.prog W 0 (fun _ => true) true m 3 [a] = some x0 := by simpa [cells3'] using hx 0 _ rfl
  have i1 : DataW.trod enc Try.prog W 0 (fun _ => true) true m 3 [b] = some x1 := by simpa [cells3'] using hx 1 _ rfl
  obtain ⟨l, e0, _, w0⟩ := DataW.trod_int Try.underlying3 i0
  obtain ⟨c, e1, _, w1⟩ := DataW.trod_int Try.underlying3 i1
  exact ⟨l, c, by simpa using e0, by simpa using e1, bounds_i64 w0, bounds_i64 w1⟩
theorem arg_place {H : Type} {enc : TypeId × Value → H} {W : World} {r : Reach} {b0 : Nat} {v : Value} {d : DataW H} {ps : List MemPlace} (hv : Value.okWide Try.prog W r b0 43 v) (h : DataW.Trod enc Try.prog W 0 (fun _ => true) true 43 v d ps) :
    ∃ l c : Int, v = pos l c ∧ i64ok l ∧ i64ok c := by
  obtain ⟨cs, rfl, hsz⟩ := okWide_struct Try.underlying43 hv
  rw [cells43'] at hsz
  obtain ⟨cs⟩ := cs
  match cs, hsz with
  | [c0, c1], _ =>
  obtain ⟨fuel, hf⟩ := h
  obtain ⟨l, c, rfl, rfl, h1, h2⟩ := trod_pos hf
  exact ⟨l, c, rfl, h1, h2⟩
/-- A region, as a value. -/
def regV (fl fc tl tc kd : Int) : Value := .agg #[.int .i64 fl, .int .i64 fc, .int .i64 tl, .int .i64 tc, .int .i64 kd]
theorem arg_region {H : Type} {enc : TypeId × Value → H} {W : World} {r : Reach} {b0 : Nat} {v : Value} {d : DataW H} {ps : List MemPlace} (hv : Value.okWide Try.prog W r b0 51 v) (h : DataW.Trod enc Try.prog W 0 (fun _ => true) true 51 v d ps) :
    ∃ fl fc tl tc kd : Int, v = regV fl fc tl tc kd ∧ i64ok fl ∧ i64ok fc ∧ i64ok tl ∧ i64ok tc ∧ i64ok kd := by
  obtain ⟨cs, rfl, hsz⟩ := okWide_struct Try.underlying51 hv
  rw [cells51] at hsz
  obtain ⟨cs⟩ := cs
  match cs, hsz with
  | [c0, c1, c2, c3, c4], _ =>
  obtain ⟨fuel, hf⟩ := h
  obtain ⟨xs, n, _, _, hl, hlen, hx⟩ := DataW.trod_struct Try.underlying51 hf
  have hlen' : xs.length = 3 := hlen
  match xs, hlen' with
  | [x0, x1, x2], _ =>
  have i0 : DataW.trod enc Try.prog W 0 (fun _ => true) true n 43 [c0, c1] = some x0 := by simpa [cells43', Value.cells] using hx 0 _ rfl
  have i1 : DataW.trod enc Try.prog W 0 (fun _ => true) true n 43 [c2, c3] = some x1 := by simpa [cells43', Value.cells] using hx 1 _ rfl
  have i2 : DataW.trod enc Try.prog W 0 (fun _ => true) true n 3 [c4] = some x2 := by simpa [cells3', Value.cells] using hx 2 _ rfl
  obtain ⟨fl, fc, rfl, rfl, g1, g2⟩ := trod_pos i0
  obtain ⟨tl, tc, rfl, rfl, g3, g4⟩ := trod_pos i1
  obtain ⟨kd, e0, _, w0⟩ := DataW.trod_int Try.underlying3 i2
  have e0 : c4 = .int .i64 kd := by simpa using e0
  subst e0
  exact ⟨fl, fc, tl, tc, kd, rfl, g1, g2, g3, g4, bounds_i64 w0⟩
theorem arg_one {H : Type} {enc : TypeId × Value → H} {W : World} {r : Reach} {b0 : Nat} {v : Value} {d : DataW H} {ps : List MemPlace} (hv : Value.okWide Try.prog W r b0 96 v) (h : DataW.Trod enc Try.prog W 0 (fun _ => true) true 96 v d ps) :
    ∃ k n : Int, v = .agg #[.int .i32 k, .int .i64 n] ∧ i64ok n ∧ -2147483648 ≤ k ∧ k ≤ 2147483647 := by
  obtain ⟨cs, rfl, hsz⟩ := okWide_struct Try.underlying96 hv
  rw [cells96] at hsz
  obtain ⟨cs⟩ := cs
  match cs, hsz with
  | [c0, c1], _ =>
  obtain ⟨fuel, hf⟩ := h
  obtain ⟨xs, m, _, _, hl, hlen, hx⟩ := DataW.trod_struct Try.underlying96 hf
  have hlen' : xs.length = 2 := hlen
  match xs, hlen' with
  | [x0, x1], _ =>
  have i0 : DataW.trod enc Try.prog W 0 (fun _ => true) true m 21 [c0] = some x0 := by simpa [cells21, Value.cells] using hx 0 _ rfl
  have i1 : DataW.trod enc Try.prog W 0 (fun _ => true) true m 3 [c1] = some x1 := by simpa [cells3', Value.cells] using hx 1 _ rfl
  obtain ⟨k, e0, _, w0⟩ := DataW.trod_int Try.underlying21 i0
  obtain ⟨n, e1, _, w1⟩ := DataW.trod_int Try.underlying3 i1
  have e0 : c0 = .int .i32 k := by simpa using e0
  have e1 : c1 = .int .i64 n := by simpa using e1
  subst e0; subst e1
  exact ⟨k, n, rfl, bounds_i64 w1, (bounds_i32 w0).1, (bounds_i32 w0).2⟩
theorem tot_le_each {xss : List (List Int)} (h : ∀ r ∈ xss, r.length ≤ 35184372087808) : Ls.tot xss ≤ xss.length * 35184372087808 := by
  induction xss with
  | nil => simp [Ls.tot]
  | cons x r ih =>
    have h1 := h x (by simp)
    have h2 := ih (fun y hy => h y (by simp [hy]))
    simp only [Ls.tot, List.length_cons]
    omega
theorem RowsOf.few {w : World} {A : Option Addr} {xss : List (List Int)} {c : Nat} (h : RowsOf w A xss c) : xss.length ≤ 300 → Ls.tot xss ≤ 36028797018963968 := fun hl => by
  have := tot_le_each h.each
  omega
end Go.Proofs.Ytdfibmbedjpcgaa
