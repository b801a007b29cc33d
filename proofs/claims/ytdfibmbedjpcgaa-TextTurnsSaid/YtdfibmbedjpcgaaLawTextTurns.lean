/- The statement TextTurns: the law's function returns true for every slice of slices of runes, and leaves the argument as it was; no condition. -/
import Derived.Test.YtdfibmbedjpcgaaRows
import Derived.Test.YtdfibmbedjpcgaaS9
import Derived.Test.YtdfibmbedjpcgaaArg
import Derived.Test.YtdfibmbedjpcgaaOpen
import Derived.WalkKit
import Derived.ProofKit
import Derived.ChangeOld
import Derived.Below
import Derived.SizedLaws
import Derived.OpenShut
namespace Go.Proofs.Ytdfibmbedjpcgaa.TextTurnsRow
open Go.ChangeShapes Go.WideShapes Go.ChangeAt Go.RowKit Eng Ls
set_option linter.unusedVariables false
theorem tot_le {xss : List (List Int)} (h : ∀ r ∈ xss, r.length ≤ 35184372087808) : tot xss ≤ xss.length * 35184372087808 := by
  induction xss with
  | nil => simp [tot]
  | cons x r ih =>
    have h1 := h x (by simp)
    have h2 := ih (fun y hy => h y (by simp [hy]))
    simp only [tot, List.length_cons]
    omega
set_option maxRecDepth 100000 in
theorem lifted (os : Os) (started : os.Started) (H : Type) (enc : TypeId × Value → H) :
    ReturnsInHanded {} Try.checked os 4 .any (Rows.textTurnsSpec.pre6 enc Try.prog Try.f4 Rows.textTurnsRow.domain false) (Rows.textTurnsSpec.post enc Try.prog Try.f4 false true false false) := by
  refine returnsInHanded_of_change_sized (C := Try.checked) own_knob started (by kernel_rfl) Try.func4
    (ChangeSpec.witness6 (enc := enc) (C := Try.checked) false ⟨#[], #[.slice none 0 0], []⟩ 8 (by kernel_rfl) (by kernel_rfl) (by kernel_rfl) (by kernel_rfl)) ?_
  intro W base args ds gs before hval0 hW hcnd hsz0 _
  have hsz : (DataW.weightsEach Try.prog (Try.f4.params.toList ++ Rows.textTurnsSpec.plain.varTypes Try.prog) (ds ++ gs)).all (· ≤ reachBytes) = true := hsz0
  have hval : ∀ (j : Nat) t v, Try.f4.params[j]? = some t → args[j]? = some v → Value.okWide Try.prog W .any base t v := hval0
  have hW' := hW
  obtain ⟨p, q, hA0, hV, rfl, hfz, hnd⟩ := hW
  have hA : DataW.TrodAll enc Try.prog W 0 (fun _ => true) true Try.f4.params.toList args.toList ds p := hA0
  rw [Try.params4] at hA hval hsz
  obtain ⟨v0, vs0, d0, ds0, p0, q0, hargs, rfl, rfl, h0, r0⟩ := trodAll_cons hA
  obtain ⟨rfl, rfl, rfl⟩ := trodAll_nil r0
  obtain rfl : args = #[v0] := by cases args; simp_all
  obtain ⟨rfl, rfl⟩ := trodVars_none hV
  obtain ⟨a0, len0, cap0, rfl⟩ := okWide_slice Try.underlying22 (hval 0 22 v0 rfl rfl)
  have k0 := h0
  have lt0 : ∀ x ∈ p0, x.block < W.heap.size := by obtain ⟨m, hm⟩ := k0; exact DataW.trod_lt m _ _ _ hm
  obtain ⟨xss, rfl, hr⟩ := arg_rows hsz (j := 0) rfl rfl h0
  clear hA0 hval0 hsz0 hsz
  have hb : xss.length ≤ 300 → tot xss ≤ 36028797018963968 := fun h => by
    have := tot_le hr.each
    omega
  refine Calls.mono (TextTurns_c W a0 cap0 xss hr.at_ hb) fun e W' ⟨v, M, he, bel, _, hv, _⟩ => ?_
  subst he
  subst hv
  exact ⟨_, rfl, _, _, _, [], _, [], hW', trodAll_mk1 (shut_bool Try.underlying4 _), (trodAll_cons_mk (Below.trod laid_out (by kernel_rfl) (of_decide_eq_true (by kernel_rfl)) k0 bel lt0) trodAll_mk0), rfl, bel.frame _, fun h => by cases h⟩
theorem facts : joinedFacts Try.pinned.checked.prog 4 Try.f4 Rows.textTurnsSpec Rows.textTurnsRow = true := by
  unfold joinedFacts
  rw [mayEnter_, liftsFinal_, make_]
  kernel_rfl
theorem over : Rows.textTurnsRow.holds Try.pinned (OpenSpec.ofChange Rows.textTurnsSpec) :=
  OpenClaim.holds_of_wide 4 Try.f4 rfl rfl rfl rfl rfl rfl rfl ⟨rfl, rfl, rfl, rfl, rfl⟩ rfl rfl rfl rfl rfl (by kernel_rfl) Try.func4 facts
    (of_decide_eq_true (by kernel_rfl)) (by unfold Func.isWrapper; first | (rw [if_pos (by decide +kernel)]; kernel_rfl) | (rw [if_neg (by decide +kernel)]; exact ⟨rfl, rfl⟩))
    (fun os started H enc _ => lifted os started H enc)
end Go.Proofs.Ytdfibmbedjpcgaa.TextTurnsRow
namespace Go.Proofs.Ytdfibmbedjpcgaa
/-- The statement. -/
theorem textTurns_holds : Rows.TextTurnsSaid := TextTurnsRow.over
#print axioms textTurns_holds
end Go.Proofs.Ytdfibmbedjpcgaa
