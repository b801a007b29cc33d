/- The engine, ninth part: rows that are owned, read by their headers. -/
import Derived.Test.YtdfibmbedjpcgaaEngC
set_option linter.unusedVariables false
set_option linter.unusedSimpArgs false
namespace Go.Proofs.Ytdfibmbedjpcgaa
open Go Go.RowKit
namespace Eng
variable {X : Cx} {k : List It} {F : Fr} {L : List Ast}
theorem rowsA_hdr {vs : List Value} {xss : List (List Int)} {w : World} {S : Nat → Prop} (h : (rowsA vs xss).A w S) (hl : vs.length = xss.length) :
    ∀ (q : Nat) xs, xss[q]? = some xs → ∃ B c, vs[q]? = some (.slice B xs.length c) ∧ xs.length ≤ c ∧ Cells w B (i32s xs) := fun q xs hq => by
  have hlt : q < vs.length := by rw [hl]; exact (List.getElem?_eq_some_iff.1 hq).1
  obtain ⟨S1, g⟩ := HpS.nth q (a := rowA vs[q] xs) (seps_A.1 (show (seps _).A w S from h)) (by rw [List.getElem?_zipWith, List.getElem?_eq_getElem hlt, hq])
  obtain ⟨B, c', e, g2⟩ := rowA_A.1 g
  have g3 := (own_A.1 g2).1
  exact ⟨B, c', by rw [List.getElem?_eq_getElem hlt, e], (g3.length).2.1, g3.cells⟩
theorem W_rowsHdr (i : Nat) {vs : List Value} {xss : List (List Int)} (hi : L[i]? = some (rowsA vs xss)) (hl : vs.length = xss.length)
    (h : (∀ (q : Nat) xs, xss[q]? = some xs → ∃ B c, vs[q]? = some (.slice B xs.length c) ∧ xs.length ≤ c) → W X k F L) : W X k F L := fun a w ha hw => by
  obtain ⟨S, hS, _⟩ := hw.hp.nth i hi
  refine h (fun q xs hq => ?_) a w ha hw
  obtain ⟨B, c, h1, h2, _⟩ := rowsA_hdr hS hl q xs hq
  exact ⟨B, c, h1, h2⟩
theorem Hp.rowCells {B : Nat} {w : World} {L : List Ast} (h : Hp B w L) (i : Nat) {vs : List Value} {xss : List (List Int)} (hi : L[i]? = some (rowsA vs xss)) (hl : vs.length = xss.length) {q : Nat} {xs : List Int} {A : Option Addr} {n c : Nat}
    (hq : xss[q]? = some xs) (hv : vs[q]? = some (.slice A n c)) : Cells w A (i32s xs) := by
  obtain ⟨S, hS, _⟩ := h.nth i hi
  obtain ⟨B', c', h1, h2, h3⟩ := rowsA_hdr hS hl q xs hq
  rw [hv] at h1
  injection h1 with h1
  injection h1 with h1
  rw [h1]; exact h3
end Eng
end Go.Proofs.Ytdfibmbedjpcgaa
