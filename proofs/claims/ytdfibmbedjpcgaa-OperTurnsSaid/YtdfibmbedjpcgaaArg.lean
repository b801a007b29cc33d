/- An argument that is a slice of slices of runes, opened: its rows as lists. -/
import Derived.Test.YtdfibmbedjpcgaaTab
import Derived.Test.YtdfibmbedjpcgaaEngQ
import Derived.WalkKit
import Derived.ProofKit
import Derived.SizedLaws
import Derived.Deep.Matrix
set_option linter.unusedVariables false
set_option linter.unusedSimpArgs false
namespace Go.Proofs.Ytdfibmbedjpcgaa
open Go Go.RowKit Go.ChangeShapes Go.WideShapes Go.Deep Eng

theorem own_knob : ownKnob Try.prog.godebug = none := by kernel_rfl
theorem laid_out : laidOutB Try.prog = true := by kernel_rfl
theorem weightsAll_mem {H : Type} {P : Program} {e : TypeId} : ∀ {l : List (DataW H)} {d : DataW H}, d ∈ l → ∀ n ∈ d.weights P e, n ∈ DataW.weightsAll P e l
  | d' :: r, d, hd, n, hn => by
    simp only [DataW.weightsAll, List.mem_append]
    rcases List.mem_cons.1 hd with rfl | h
    · exact Or.inl hn
    · exact Or.inr (weightsAll_mem h n hn)
theorem sized_row {H : Type} {P : Program} {ts : List TypeId} {ds : List (DataW H)} (h : (DataW.weightsEach P ts ds).all (· ≤ reachBytes) = true) {j : Nat} {t e q : TypeId} {elems spare e' sp' : List (DataW H)}
    (ht : ts[j]? = some t) (hd : ds[j]? = some (.slice elems spare)) (hu : P.underlying t = some (.slice e)) (hu2 : P.underlying e = some (.slice q)) (hx : DataW.slice e' sp' ∈ elems) : (e'.length + sp'.length) * P.bytesOf q ≤ reachBytes := by
  refine of_decide_eq_true (List.all_eq_true.1 h _ (DataW.weights_mem_each ht hd _ ?_))
  simp only [DataW.weights, hu, List.mem_cons, List.mem_append]
  exact Or.inr (Or.inl (weightsAll_mem hx _ (by simp [DataW.weights, hu2])))
theorem lits_length {H : Type} (k : IntKind) (l : List Int) : (lits (H := H) k l).length = l.length := by simp [lits]
/-- Rows of a bounded length. -/
structure RowsOf (w : World) (A : Option Addr) (xss : List (List Int)) (c : Nat) : Prop where
  at_ : RowsAt w A xss
  cap : xss.length ≤ c
  len : xss.length ≤ 35184372087808
  each : ∀ r ∈ xss, r.length ≤ 35184372087808
  wf : ∀ r ∈ xss, ∀ n ∈ r, (Lit.int .i32 n).wf = true
theorem arg_rows {H : Type} {enc : TypeId × Value → H} {W : World} {a0 : Option Addr} {len cap : Nat} {d : DataW H} {ps : List MemPlace} {ts : List TypeId} {ds : List (DataW H)} {j : Nat}
    (hsz : (DataW.weightsEach Try.prog ts ds).all (· ≤ reachBytes) = true) (ht : ts[j]? = some 22) (hd : ds[j]? = some d) (h0 : DataW.Trod enc Try.prog W 0 (fun _ => true) true 22 (.slice a0 len cap) d ps) :
    ∃ xss, xss.length = len ∧ RowsOf W a0 xss cap := by
  obtain ⟨fuel, hf⟩ := h0
  rcases open_int_rows Try.underlying22 Try.underlying48 Try.underlying21 (by kernel_rfl) (by kernel_rfl) hf with ⟨hcs, hx⟩ | ⟨a, l, c, A, L, C, Z, hcs, _, hl, hm, hx, hr⟩
  · simp [Value.cells] at hcs
    obtain ⟨rfl, rfl, rfl⟩ := hcs
    exact ⟨[], rfl, RowsAt.nil _ _, by simp, by simp, fun r hr => by simp at hr, fun r hr => by simp at hr⟩
  · simp [Value.cells] at hcs
    obtain ⟨rfl, rfl, rfl⟩ := hcs
    simp only [Prod.mk.injEq] at hx
    obtain ⟨rfl, _⟩ := hx
    have hZ : ∀ r, r < cap → ((Z r).take (L r)).length = L r := fun r h => by
      obtain ⟨_, h1, _, h2, _⟩ := hr r h
      rw [List.length_take]; omega
    refine ⟨(List.range len).map fun r => (Z r).take (L r), by simp, ⟨⟨(List.range len).map fun r => .slice (A r) (L r) (C r), fun i v hi => ?_, by simp, fun i xs hi => ?_⟩⟩, by simpa using hl, ?_, fun r hm2 => ?_, fun r hm2 => ?_⟩
    · have hlt : i < len := by simpa using (List.getElem?_eq_some_iff.1 hi).1
      have : v = .slice (A i) (L i) (C i) := by simpa [hlt] using hi.symm
      rw [this]
      exact ⟨a, rfl, (hr i (by omega)).1⟩
    · have hlt : i < len := by simpa using (List.getElem?_eq_some_iff.1 hi).1
      have : xs = (Z i).take (L i) := by simpa [hlt] using hi.symm
      subst this
      obtain ⟨h1, h2, h3, h4, h5, h6, h7⟩ := hr i (by omega)
      refine ⟨A i, C i, by simp [hlt, hZ i (by omega)], by rw [hZ i (by omega)]; exact h2, fun q v hq => ?_⟩
      have hql : q < L i := by
        have := (List.getElem?_eq_some_iff.1 hq).1
        rwa [i32s_length, hZ i (by omega)] at this
      have hv : v = .int .i32 ((Z i).getD q 0) := by
        rw [i32s, List.getElem?_map, List.getElem?_take, if_pos hql] at hq
        rw [List.getD_eq_getElem?_getD]
        have hqz : q < (Z i).length := by omega
        rw [List.getElem?_eq_getElem hqz] at hq ⊢
        simpa using hq.symm
      cases hA : A i with
      | none => have := h6 hA; omega
      | some a' => exact ⟨a', rfl, by rw [hv]; exact (h7 a' hA).2 q (by omega)⟩
    · have := sized_slice hsz ht hd Try.underlying22
      rw [show Try.prog.bytesOf 48 = 24 by kernel_rfl] at this
      simp only [List.length_map, List.length_range] at this ⊢
      unfold reachBytes at this
      omega
    · obtain ⟨i, hi, rfl⟩ := List.mem_map.1 hm2
      have hlt : i < len := List.mem_range.1 hi
      rw [hZ i (by omega)]
      obtain ⟨h1, h2, h3, h4, h5, h6, h7⟩ := hr i (by omega)
      cases hA : A i with
      | none => have := h6 hA; omega
      | some a' =>
        have hmem : DataW.slice (lits (H := H) .i32 ((Z i).take (L i))) (lits .i32 ((Z i).drop (L i))) ∈ (List.range len).map fun r => intRow .i32 (A r) (L r) (Z r) :=
          List.mem_map.2 ⟨i, hi, by simp [intRow, hA]⟩
        have := sized_row hsz ht hd Try.underlying22 Try.underlying48 hmem
        rw [show Try.prog.bytesOf 21 = 4 by kernel_rfl, lits_length, lits_length, hZ i (by omega)] at this
        unfold reachBytes at this
        omega
    · obtain ⟨i, hi, rfl⟩ := List.mem_map.1 hm2
      have hlt : i < len := List.mem_range.1 hi
      intro n hn
      exact (hr i (by omega)).2.2.2.2.1 n (List.mem_of_mem_take hn)
end Go.Proofs.Ytdfibmbedjpcgaa
