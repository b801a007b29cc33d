/- An argument that is a deed, opened: its cells. -/
import Derived.Test.YtdfibmbedjpcgaaArg
import Derived.Test.YtdfibmbedjpcgaaU2
import Derived.Lib.SmallJoins
set_option linter.unusedVariables false
set_option linter.unusedSimpArgs false
namespace Go.Proofs.Ytdfibmbedjpcgaa
open Go Go.RowKit Go.ChangeShapes Go.WideShapes Go.Deep Eng

theorem cells80 : Try.prog.cellsOf 80 = 8 := by kernel_rfl
theorem cells43 : Try.prog.cellsOf 43 = 2 := by kernel_rfl
theorem cells3 : Try.prog.cellsOf 3 = 1 := by kernel_rfl
theorem cells48 : Try.prog.cellsOf 48 = 1 := by kernel_rfl
theorem cells22 : Try.prog.cellsOf 22 = 1 := by kernel_rfl
theorem arg_pos {H : Type} {enc : TypeId × Value → H} {W : World} {n : Nat} {a b : Value} {y : DataW H × List MemPlace} (h : DataW.trod enc Try.prog W 0 (fun _ => true) true n 43 [a, b] = some y) : ∃ l c : Int, a = .int .i64 l ∧ b = .int .i64 c := by
  obtain ⟨xs, m, _, _, hl, hlen, hx⟩ := DataW.trod_struct Try.underlying43 h
  have hlen' : xs.length = 2 := hlen
  match xs, hlen' with
  | [x0, x1], _ =>
  have i0 : DataW.trod enc Try.prog W 0 (fun _ => true) true m 3 [a] = some x0 := by simpa [cells3] using hx 0 _ rfl
  have i1 : DataW.trod enc Try.prog W 0 (fun _ => true) true m 3 [b] = some x1 := by simpa [cells3] using hx 1 _ rfl
  obtain ⟨l, e0, _, _⟩ := DataW.trod_int Try.underlying3 i0
  obtain ⟨c, e1, _, _⟩ := DataW.trod_int Try.underlying3 i1
  exact ⟨l, c, by simpa using e0, by simpa using e1⟩
set_option maxRecDepth 100000 in
theorem arg_deed {H : Type} {enc : TypeId × Value → H} {W : World} {r : Reach} {b0 : Nat} {v : Value} {d : DataW H} {ps : List MemPlace} (hv : Value.okWide Try.prog W r b0 80 v) (h : DataW.Trod enc Try.prog W 0 (fun _ => true) true 80 v d ps) :
    ∃ (k n fl fc tl tc : Int) (l ls : Value), v = deedV k n fl fc tl tc l ls := by
  obtain ⟨cs, rfl, hsz⟩ := okWide_struct Try.underlying80 hv
  rw [cells80] at hsz
  obtain ⟨cs⟩ := cs
  match cs, hsz with
  | [c0, c1, c2, c3, c4, c5, c6, c7], _ =>
  obtain ⟨fuel, hf⟩ := h
  obtain ⟨xs, n, _, _, hl, hlen, hx⟩ := DataW.trod_struct Try.underlying80 hf
  have hlen' : xs.length = 6 := hlen
  match xs, hlen' with
  | [x0, x1, x2, x3, x4, x5], _ =>
  have i0 : DataW.trod enc Try.prog W 0 (fun _ => true) true n 3 [c0] = some x0 := by simpa [cells3, Value.cells] using hx 0 _ rfl
  have i1 : DataW.trod enc Try.prog W 0 (fun _ => true) true n 3 [c1] = some x1 := by simpa [cells3, Value.cells] using hx 1 _ rfl
  have i2 : DataW.trod enc Try.prog W 0 (fun _ => true) true n 43 [c2, c3] = some x2 := by simpa [cells43, Value.cells] using hx 2 _ rfl
  have i3 : DataW.trod enc Try.prog W 0 (fun _ => true) true n 43 [c4, c5] = some x3 := by simpa [cells43, Value.cells] using hx 3 _ rfl
  obtain ⟨k, e0, _, _⟩ := DataW.trod_int Try.underlying3 i0
  obtain ⟨m, e1, _, _⟩ := DataW.trod_int Try.underlying3 i1
  obtain ⟨fl, fc, rfl, rfl⟩ := arg_pos i2
  obtain ⟨tl, tc, rfl, rfl⟩ := arg_pos i3
  have e0 : c0 = .int .i64 k := by simpa using e0
  have e1 : c1 = .int .i64 m := by simpa using e1
  subst e0; subst e1
  exact ⟨k, m, fl, fc, tl, tc, c6, c7, rfl⟩
end Go.Proofs.Ytdfibmbedjpcgaa
