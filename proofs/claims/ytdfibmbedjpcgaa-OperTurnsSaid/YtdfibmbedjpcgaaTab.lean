/- The table of the seat's types that the walks ask for, each by the loaded program's own facts. -/
import Derived.Test.YtdfibmbedjpcgaaRows
import Derived.Test.YtdfibmbedjpcgaaEngS
set_option linter.unusedVariables false
set_option linter.unusedSimpArgs false
namespace Go.Proofs.Ytdfibmbedjpcgaa
open Go Go.RowKit
namespace Eng
theorem info_of {P : Program} {t : Nat} {i : TypeInfo} (h : P.types[t]? = some i) : P.info? t = some i := by
  unfold Tables.info?
  have hlt : t < P.types.size := (Array.getElem?_eq_some_iff.1 h).1
  rw [if_pos hlt]
  exact h
theorem eqc_int {z : List Value} {k0 : IntKind} {n0 : Int} {xs ys : List Value} {b : Bool} (h : eqCells (.int k0 n0 :: z) xs ys = some b) : ∃ k a a' r s c, xs = .int k a :: r ∧ ys = .int k a' :: s ∧ eqCells z r s = some c ∧ b = (decide (a = a') && c) := by
  cases xs with
  | nil => cases ys <;> simp [eqCells] at h
  | cons x r =>
    cases ys with
    | nil => simp [eqCells] at h
    | cons y s =>
      cases x <;> cases y <;> simp only [eqCells] at h <;> first | (cases h; done) | skip
      split at h
      · rename_i hk
        subst hk
        split at h
        · rename_i c hc
          injection h with h
          exact ⟨_, _, _, _, _, c, rfl, rfl, hc, h.symm⟩
        · cases h
      · cases h
theorem eqc_bool {z : List Value} {n0 : Bool} {xs ys : List Value} {b : Bool} (h : eqCells (.bool n0 :: z) xs ys = some b) : ∃ a a' r s c, xs = .bool a :: r ∧ ys = .bool a' :: s ∧ eqCells z r s = some c ∧ b = ((a == a') && c) := by
  cases xs with
  | nil => cases ys <;> simp [eqCells] at h
  | cons x r =>
    cases ys with
    | nil => simp [eqCells] at h
    | cons y s =>
      cases x <;> cases y <;> simp only [eqCells] at h <;> first | (cases h; done) | skip
      split at h
      · rename_i c hc
        injection h with h
        exact ⟨_, _, _, _, c, rfl, rfl, hc, h.symm⟩
      · cases h
theorem eqc_nil {xs ys : List Value} {b : Bool} (h : eqCells [] xs ys = some b) : xs = [] ∧ ys = [] ∧ b = true := by
  cases xs <;> cases ys <;> simp [eqCells] at h
  exact ⟨rfl, rfl, h⟩
section
variable (d : Nat) (w : World)
theorem eq3 (k : IntKind) (a b : Int) : (Op.equalIn (d + 1) 3 (.int k a) (.int k b)).run Try.prog w = .ok (decide (a = b)) w := eqIn_int d 3 w Try.underlying3 k a b
theorem eq21 (k : IntKind) (a b : Int) : (Op.equalIn (d + 1) 21 (.int k a) (.int k b)).run Try.prog w = .ok (decide (a = b)) w := eqIn_int d 21 w Try.underlying21 k a b
theorem eq4 (a b : Bool) : (Op.equalIn (d + 1) 4 (.bool a) (.bool b)).run Try.prog w = .ok (a == b) w := eqIn_bool d 4 w Try.underlying4 a b
theorem agg3 : (isAgg 3).run Try.prog w = .ok false w := by simp [isAgg, run_underlying Try.underlying3]
theorem agg21 : (isAgg 21).run Try.prog w = .ok false w := by simp [isAgg, run_underlying Try.underlying21]
theorem agg4 : (isAgg 4).run Try.prog w = .ok false w := by simp [isAgg, run_underlying Try.underlying4]
end
set_option maxHeartbeats 1000000 in
theorem eq43' (d : Nat) (w : World) (k1 k2 : IntKind) (a1 a2 c1 c2 : Int) :
    (Op.equalIn (d + 1 + 1) 43 (.agg #[.int k1 a1, .int k2 a2]) (.agg #[.int k1 c1, .int k2 c2])).run Try.prog w = .ok (decide (a1 = c1) && (decide (a2 = c2) && true)) w := by
  have hst : Try.prog.stoodInHeld 43 = false := by kernel_rfl
  unfold Op.equalIn
  simp [run_underlying Try.underlying43, hst, part, agg3, eq3]
  by_cases h1 : a1 = c1 <;> by_cases h2 : a2 = c2 <;> simp [h1, h2]
theorem eq43 : ∀ w (xs ys : Array Value) b, eqCells (zcells ⟨Try.t42.desc, Try.t43, false⟩) xs.toList ys.toList = some b → (Op.equal 43 (.agg xs) (.agg ys)).run Try.prog w = .ok b w := by
  intro w xs ys b h
  obtain ⟨xs⟩ := xs
  obtain ⟨ys⟩ := ys
  obtain ⟨k1, a1, c1, r1, s1, d1, rfl, rfl, h2, rfl⟩ := eqc_int (show eqCells [.int .i64 0, .int .i64 0] xs ys = some b from h)
  clear h
  obtain ⟨k2, a2, c2, r2, s2, d2, rfl, rfl, h, rfl⟩ := eqc_int h2
  obtain ⟨rfl, rfl, rfl⟩ := eqc_nil h
  exact eq43' 9998 w k1 k2 a1 a2 c1 c2
set_option maxHeartbeats 1000000 in
theorem eq116' (d : Nat) (w : World) (k1 k2 k3 k4 k5 k6 : IntKind) (a1 a2 a3 a4 a5 a6 c1 c2 c3 c4 c5 c6 : Int) (x y : Bool) :
    (Op.equalIn (d + 1 + 1) 116 (.agg #[.int k1 a1, .int k2 a2, .int k3 a3, .int k4 a4, .int k5 a5, .int k6 a6, .bool x]) (.agg #[.int k1 c1, .int k2 c2, .int k3 c3, .int k4 c4, .int k5 c5, .int k6 c6, .bool y])).run Try.prog w =
      .ok (decide (a1 = c1) && (decide (a2 = c2) && (decide (a3 = c3) && (decide (a4 = c4) && (decide (a5 = c5) && (decide (a6 = c6) && ((x == y) && true))))))) w := by
  have hst : Try.prog.stoodInHeld 116 = false := by kernel_rfl
  unfold Op.equalIn
  simp [run_underlying Try.underlying116, hst, part, agg3, eq3, agg21, eq21, agg4, eq4]
  by_cases h1 : a1 = c1
  · by_cases h2 : a2 = c2
    · by_cases h3 : a3 = c3
      · by_cases h4 : a4 = c4
        · by_cases h5 : a5 = c5
          · by_cases h6 : a6 = c6
            · cases x <;> cases y <;> simp [h1, h2, h3, h4, h5, h6]
            · simp [h1, h2, h3, h4, h5, h6]
          · simp [h1, h2, h3, h4, h5]
        · simp [h1, h2, h3, h4]
      · simp [h1, h2, h3]
    · simp [h1, h2]
  · simp [h1]
theorem eq116 : ∀ w (xs ys : Array Value) b, eqCells (zcells ⟨Try.t115.desc, Try.t116, false⟩) xs.toList ys.toList = some b → (Op.equal 116 (.agg xs) (.agg ys)).run Try.prog w = .ok b w := by
  intro w xs ys b h
  obtain ⟨xs⟩ := xs
  obtain ⟨ys⟩ := ys
  obtain ⟨k1, a1, c1, r1, s1, d1, rfl, rfl, h2, rfl⟩ := eqc_int (show eqCells [.int .i32 0, .int .i64 0, .int .i32 0, .int .i32 0, .int .i32 0, .int .i32 0, .bool false] xs ys = some b from h)
  clear h
  obtain ⟨k2, a2, c2, r2, s2, d2, rfl, rfl, h3, rfl⟩ := eqc_int h2
  obtain ⟨k3, a3, c3, r3, s3, d3, rfl, rfl, h4, rfl⟩ := eqc_int h3
  obtain ⟨k4, a4, c4, r4, s4, d4, rfl, rfl, h5, rfl⟩ := eqc_int h4
  obtain ⟨k5, a5, c5, r5, s5, d5, rfl, rfl, h6, rfl⟩ := eqc_int h5
  obtain ⟨k6, a6, c6, r6, s6, d6, rfl, rfl, h7, rfl⟩ := eqc_int h6
  obtain ⟨x, y, r7, s7, d7, rfl, rfl, h8, rfl⟩ := eqc_bool h7
  obtain ⟨rfl, rfl, rfl⟩ := eqc_nil h8
  exact eq116' 9998 w k1 k2 k3 k4 k5 k6 a1 a2 a3 a4 a5 a6 c1 c2 c3 c4 c5 c6 x y
noncomputable def T : Tab := [
  (3, ⟨Try.t3.desc, Try.t3, true⟩),
  (48, ⟨Try.t48.desc, Try.t48, true⟩),
  (22, ⟨Try.t22.desc, Try.t22, true⟩),
  (21, ⟨Try.t21.desc, Try.t21, true⟩),
  (43, ⟨Try.t42.desc, Try.t43, false⟩),
  (4, ⟨Try.t4.desc, Try.t4, true⟩),
  (30, ⟨Try.t3.desc, Try.t30, true⟩),
  (5, ⟨Try.t5.desc, Try.t5, true⟩),
  (9, ⟨Try.t9.desc, Try.t9, true⟩),
  (24, ⟨Try.t23.desc, Try.t24, true⟩),
  (26, ⟨Try.t25.desc, Try.t26, true⟩),
  (27, ⟨Try.t27.desc, Try.t27, true⟩),
  (29, ⟨Try.t29.desc, Try.t29, true⟩),
  (38, ⟨Try.t38.desc, Try.t38, true⟩),
  (40, ⟨Try.t40.desc, Try.t40, true⟩),
  (51, ⟨Try.t50.desc, Try.t51, true⟩),
  (54, ⟨Try.t53.desc, Try.t54, true⟩),
  (63, ⟨Try.t62.desc, Try.t63, true⟩),
  (67, ⟨Try.t67.desc, Try.t67, true⟩),
  (70, ⟨Try.t69.desc, Try.t70, true⟩),
  (74, ⟨Try.t74.desc, Try.t74, true⟩),
  (76, ⟨Try.t76.desc, Try.t76, true⟩),
  (80, ⟨Try.t79.desc, Try.t80, true⟩),
  (96, ⟨Try.t95.desc, Try.t96, true⟩),
  (100, ⟨Try.t99.desc, Try.t100, true⟩),
  (113, ⟨Try.t113.desc, Try.t113, true⟩),
  (116, ⟨Try.t115.desc, Try.t116, false⟩),
  (120, ⟨Try.t120.desc, Try.t120, true⟩),
  (125, ⟨Try.t125.desc, Try.t125, true⟩),
  (132, ⟨Try.t132.desc, Try.t132, true⟩),
  (134, ⟨Try.t133.desc, Try.t134, true⟩),
  (136, ⟨Try.t136.desc, Try.t136, true⟩),
  (138, ⟨Try.t137.desc, Try.t138, true⟩),
  (148, ⟨Try.t148.desc, Try.t148, true⟩),
  (150, ⟨Try.t150.desc, Try.t150, true⟩),
  (152, ⟨Try.t151.desc, Try.t152, true⟩),
  (155, ⟨Try.t154.desc, Try.t155, true⟩),
  (159, ⟨Try.t158.desc, Try.t159, true⟩),
  (186, ⟨Try.t185.desc, Try.t186, true⟩),
  (187, ⟨Try.t187.desc, Try.t187, true⟩),
  (190, ⟨Try.t190.desc, Try.t190, true⟩),
  (196, ⟨Try.t195.desc, Try.t196, true⟩),
  (198, ⟨Try.t197.desc, Try.t198, true⟩),
  (200, ⟨Try.t199.desc, Try.t200, true⟩),
  (202, ⟨Try.t195.desc, Try.t202, true⟩),
  (207, ⟨Try.t207.desc, Try.t207, true⟩),
  (209, ⟨Try.t208.desc, Try.t209, true⟩),
  (211, ⟨Try.t210.desc, Try.t211, true⟩),
  (223, ⟨Try.t223.desc, Try.t223, true⟩),
  (226, ⟨Try.t225.desc, Try.t226, true⟩),
  (228, ⟨Try.t227.desc, Try.t228, true⟩),
  (233, ⟨Try.t232.desc, Try.t233, true⟩),
  (240, ⟨Try.t240.desc, Try.t240, true⟩),
  (244, ⟨Try.t244.desc, Try.t244, true⟩),
  (248, ⟨Try.t248.desc, Try.t248, true⟩),
  (251, ⟨Try.t251.desc, Try.t251, true⟩),
  (261, ⟨Try.t261.desc, Try.t261, true⟩),
  (268, ⟨Try.t268.desc, Try.t268, true⟩),
  (224, ⟨Try.t224.desc, Try.t224, true⟩),
  (290, ⟨Try.t195.desc, Try.t290, true⟩),
  (292, ⟨Try.t291.desc, Try.t292, true⟩),
  (293, ⟨Try.t195.desc, Try.t293, true⟩),
  (294, ⟨Try.t195.desc, Try.t294, true⟩),
  (295, ⟨Try.t195.desc, Try.t295, true⟩),
  (296, ⟨Try.t195.desc, Try.t296, true⟩),
  (165, ⟨Try.t165.desc, Try.t165, true⟩),
  (164, ⟨Try.t164.desc, Try.t164, true⟩),
  (163, ⟨Try.t163.desc, Try.t163, true⟩),
  (181, ⟨Try.t181.desc, Try.t181, true⟩),
  (191, ⟨Try.t191.desc, Try.t191, true⟩),
  (189, ⟨Try.t189.desc, Try.t189, true⟩),
  (214, ⟨Try.t214.desc, Try.t214, true⟩),
  (216, ⟨Try.t216.desc, Try.t216, true⟩),
  (215, ⟨Try.t215.desc, Try.t215, true⟩),
  (213, ⟨Try.t213.desc, Try.t213, true⟩),
  (212, ⟨Try.t212.desc, Try.t212, true⟩),
  (161, ⟨Try.t161.desc, Try.t161, true⟩),
  (264, ⟨Try.t264.desc, Try.t264, true⟩),
  (272, ⟨Try.t272.desc, Try.t272, true⟩),
  (246, ⟨Try.t246.desc, Try.t246, true⟩),
  (218, ⟨Try.t218.desc, Try.t218, true⟩)]
theorem tok3 : TIok Try.prog 3 ⟨Try.t3.desc, Try.t3, true⟩ := ⟨Try.underlying3, info_of Try.type3, fun h => by cases h⟩
theorem tok48 : TIok Try.prog 48 ⟨Try.t48.desc, Try.t48, true⟩ := ⟨Try.underlying48, info_of Try.type48, fun h => by cases h⟩
theorem tok22 : TIok Try.prog 22 ⟨Try.t22.desc, Try.t22, true⟩ := ⟨Try.underlying22, info_of Try.type22, fun h => by cases h⟩
theorem tok21 : TIok Try.prog 21 ⟨Try.t21.desc, Try.t21, true⟩ := ⟨Try.underlying21, info_of Try.type21, fun h => by cases h⟩
theorem tok43 : TIok Try.prog 43 ⟨Try.t42.desc, Try.t43, false⟩ := ⟨Try.underlying43, info_of Try.type43, fun _ => ⟨Try.eqGuardType43, eq43⟩⟩
theorem tok4 : TIok Try.prog 4 ⟨Try.t4.desc, Try.t4, true⟩ := ⟨Try.underlying4, info_of Try.type4, fun h => by cases h⟩
theorem tok30 : TIok Try.prog 30 ⟨Try.t3.desc, Try.t30, true⟩ := ⟨Try.underlying30, info_of Try.type30, fun h => by cases h⟩
theorem tok5 : TIok Try.prog 5 ⟨Try.t5.desc, Try.t5, true⟩ := ⟨Try.underlying5, info_of Try.type5, fun h => by cases h⟩
theorem tok9 : TIok Try.prog 9 ⟨Try.t9.desc, Try.t9, true⟩ := ⟨Try.underlying9, info_of Try.type9, fun h => by cases h⟩
theorem tok24 : TIok Try.prog 24 ⟨Try.t23.desc, Try.t24, true⟩ := ⟨Try.underlying24, info_of Try.type24, fun h => by cases h⟩
theorem tok26 : TIok Try.prog 26 ⟨Try.t25.desc, Try.t26, true⟩ := ⟨Try.underlying26, info_of Try.type26, fun h => by cases h⟩
theorem tok27 : TIok Try.prog 27 ⟨Try.t27.desc, Try.t27, true⟩ := ⟨Try.underlying27, info_of Try.type27, fun h => by cases h⟩
theorem tok29 : TIok Try.prog 29 ⟨Try.t29.desc, Try.t29, true⟩ := ⟨Try.underlying29, info_of Try.type29, fun h => by cases h⟩
theorem tok38 : TIok Try.prog 38 ⟨Try.t38.desc, Try.t38, true⟩ := ⟨Try.underlying38, info_of Try.type38, fun h => by cases h⟩
theorem tok40 : TIok Try.prog 40 ⟨Try.t40.desc, Try.t40, true⟩ := ⟨Try.underlying40, info_of Try.type40, fun h => by cases h⟩
theorem tok51 : TIok Try.prog 51 ⟨Try.t50.desc, Try.t51, true⟩ := ⟨Try.underlying51, info_of Try.type51, fun h => by cases h⟩
theorem tok54 : TIok Try.prog 54 ⟨Try.t53.desc, Try.t54, true⟩ := ⟨Try.underlying54, info_of Try.type54, fun h => by cases h⟩
theorem tok63 : TIok Try.prog 63 ⟨Try.t62.desc, Try.t63, true⟩ := ⟨Try.underlying63, info_of Try.type63, fun h => by cases h⟩
theorem tok67 : TIok Try.prog 67 ⟨Try.t67.desc, Try.t67, true⟩ := ⟨Try.underlying67, info_of Try.type67, fun h => by cases h⟩
theorem tok70 : TIok Try.prog 70 ⟨Try.t69.desc, Try.t70, true⟩ := ⟨Try.underlying70, info_of Try.type70, fun h => by cases h⟩
theorem tok74 : TIok Try.prog 74 ⟨Try.t74.desc, Try.t74, true⟩ := ⟨Try.underlying74, info_of Try.type74, fun h => by cases h⟩
theorem tok76 : TIok Try.prog 76 ⟨Try.t76.desc, Try.t76, true⟩ := ⟨Try.underlying76, info_of Try.type76, fun h => by cases h⟩
theorem tok80 : TIok Try.prog 80 ⟨Try.t79.desc, Try.t80, true⟩ := ⟨Try.underlying80, info_of Try.type80, fun h => by cases h⟩
theorem tok96 : TIok Try.prog 96 ⟨Try.t95.desc, Try.t96, true⟩ := ⟨Try.underlying96, info_of Try.type96, fun h => by cases h⟩
theorem tok100 : TIok Try.prog 100 ⟨Try.t99.desc, Try.t100, true⟩ := ⟨Try.underlying100, info_of Try.type100, fun h => by cases h⟩
theorem tok113 : TIok Try.prog 113 ⟨Try.t113.desc, Try.t113, true⟩ := ⟨Try.underlying113, info_of Try.type113, fun h => by cases h⟩
theorem tok116 : TIok Try.prog 116 ⟨Try.t115.desc, Try.t116, false⟩ := ⟨Try.underlying116, info_of Try.type116, fun _ => ⟨Try.eqGuardType116, eq116⟩⟩
theorem tok120 : TIok Try.prog 120 ⟨Try.t120.desc, Try.t120, true⟩ := ⟨Try.underlying120, info_of Try.type120, fun h => by cases h⟩
theorem tok125 : TIok Try.prog 125 ⟨Try.t125.desc, Try.t125, true⟩ := ⟨Try.underlying125, info_of Try.type125, fun h => by cases h⟩
theorem tok132 : TIok Try.prog 132 ⟨Try.t132.desc, Try.t132, true⟩ := ⟨Try.underlying132, info_of Try.type132, fun h => by cases h⟩
theorem tok134 : TIok Try.prog 134 ⟨Try.t133.desc, Try.t134, true⟩ := ⟨Try.underlying134, info_of Try.type134, fun h => by cases h⟩
theorem tok136 : TIok Try.prog 136 ⟨Try.t136.desc, Try.t136, true⟩ := ⟨Try.underlying136, info_of Try.type136, fun h => by cases h⟩
theorem tok138 : TIok Try.prog 138 ⟨Try.t137.desc, Try.t138, true⟩ := ⟨Try.underlying138, info_of Try.type138, fun h => by cases h⟩
theorem tok148 : TIok Try.prog 148 ⟨Try.t148.desc, Try.t148, true⟩ := ⟨Try.underlying148, info_of Try.type148, fun h => by cases h⟩
theorem tok150 : TIok Try.prog 150 ⟨Try.t150.desc, Try.t150, true⟩ := ⟨Try.underlying150, info_of Try.type150, fun h => by cases h⟩
theorem tok152 : TIok Try.prog 152 ⟨Try.t151.desc, Try.t152, true⟩ := ⟨Try.underlying152, info_of Try.type152, fun h => by cases h⟩
theorem tok155 : TIok Try.prog 155 ⟨Try.t154.desc, Try.t155, true⟩ := ⟨Try.underlying155, info_of Try.type155, fun h => by cases h⟩
theorem tok159 : TIok Try.prog 159 ⟨Try.t158.desc, Try.t159, true⟩ := ⟨Try.underlying159, info_of Try.type159, fun h => by cases h⟩
theorem tok186 : TIok Try.prog 186 ⟨Try.t185.desc, Try.t186, true⟩ := ⟨Try.underlying186, info_of Try.type186, fun h => by cases h⟩
theorem tok187 : TIok Try.prog 187 ⟨Try.t187.desc, Try.t187, true⟩ := ⟨Try.underlying187, info_of Try.type187, fun h => by cases h⟩
theorem tok190 : TIok Try.prog 190 ⟨Try.t190.desc, Try.t190, true⟩ := ⟨Try.underlying190, info_of Try.type190, fun h => by cases h⟩
theorem tok196 : TIok Try.prog 196 ⟨Try.t195.desc, Try.t196, true⟩ := ⟨Try.underlying196, info_of Try.type196, fun h => by cases h⟩
theorem tok198 : TIok Try.prog 198 ⟨Try.t197.desc, Try.t198, true⟩ := ⟨Try.underlying198, info_of Try.type198, fun h => by cases h⟩
theorem tok200 : TIok Try.prog 200 ⟨Try.t199.desc, Try.t200, true⟩ := ⟨Try.underlying200, info_of Try.type200, fun h => by cases h⟩
theorem tok202 : TIok Try.prog 202 ⟨Try.t195.desc, Try.t202, true⟩ := ⟨Try.underlying202, info_of Try.type202, fun h => by cases h⟩
theorem tok207 : TIok Try.prog 207 ⟨Try.t207.desc, Try.t207, true⟩ := ⟨Try.underlying207, info_of Try.type207, fun h => by cases h⟩
theorem tok209 : TIok Try.prog 209 ⟨Try.t208.desc, Try.t209, true⟩ := ⟨Try.underlying209, info_of Try.type209, fun h => by cases h⟩
theorem tok211 : TIok Try.prog 211 ⟨Try.t210.desc, Try.t211, true⟩ := ⟨Try.underlying211, info_of Try.type211, fun h => by cases h⟩
theorem tok223 : TIok Try.prog 223 ⟨Try.t223.desc, Try.t223, true⟩ := ⟨Try.underlying223, info_of Try.type223, fun h => by cases h⟩
theorem tok226 : TIok Try.prog 226 ⟨Try.t225.desc, Try.t226, true⟩ := ⟨Try.underlying226, info_of Try.type226, fun h => by cases h⟩
theorem tok228 : TIok Try.prog 228 ⟨Try.t227.desc, Try.t228, true⟩ := ⟨Try.underlying228, info_of Try.type228, fun h => by cases h⟩
theorem tok233 : TIok Try.prog 233 ⟨Try.t232.desc, Try.t233, true⟩ := ⟨Try.underlying233, info_of Try.type233, fun h => by cases h⟩
theorem tok240 : TIok Try.prog 240 ⟨Try.t240.desc, Try.t240, true⟩ := ⟨Try.underlying240, info_of Try.type240, fun h => by cases h⟩
theorem tok244 : TIok Try.prog 244 ⟨Try.t244.desc, Try.t244, true⟩ := ⟨Try.underlying244, info_of Try.type244, fun h => by cases h⟩
theorem tok248 : TIok Try.prog 248 ⟨Try.t248.desc, Try.t248, true⟩ := ⟨Try.underlying248, info_of Try.type248, fun h => by cases h⟩
theorem tok251 : TIok Try.prog 251 ⟨Try.t251.desc, Try.t251, true⟩ := ⟨Try.underlying251, info_of Try.type251, fun h => by cases h⟩
theorem tok261 : TIok Try.prog 261 ⟨Try.t261.desc, Try.t261, true⟩ := ⟨Try.underlying261, info_of Try.type261, fun h => by cases h⟩
theorem tok268 : TIok Try.prog 268 ⟨Try.t268.desc, Try.t268, true⟩ := ⟨Try.underlying268, info_of Try.type268, fun h => by cases h⟩
theorem tok224 : TIok Try.prog 224 ⟨Try.t224.desc, Try.t224, true⟩ := ⟨Try.underlying224, info_of Try.type224, fun h => by cases h⟩
theorem tok290 : TIok Try.prog 290 ⟨Try.t195.desc, Try.t290, true⟩ := ⟨Try.underlying290, info_of Try.type290, fun h => by cases h⟩
theorem tok292 : TIok Try.prog 292 ⟨Try.t291.desc, Try.t292, true⟩ := ⟨Try.underlying292, info_of Try.type292, fun h => by cases h⟩
theorem tok293 : TIok Try.prog 293 ⟨Try.t195.desc, Try.t293, true⟩ := ⟨Try.underlying293, info_of Try.type293, fun h => by cases h⟩
theorem tok294 : TIok Try.prog 294 ⟨Try.t195.desc, Try.t294, true⟩ := ⟨Try.underlying294, info_of Try.type294, fun h => by cases h⟩
theorem tok295 : TIok Try.prog 295 ⟨Try.t195.desc, Try.t295, true⟩ := ⟨Try.underlying295, info_of Try.type295, fun h => by cases h⟩
theorem tok296 : TIok Try.prog 296 ⟨Try.t195.desc, Try.t296, true⟩ := ⟨Try.underlying296, info_of Try.type296, fun h => by cases h⟩
theorem tok165 : TIok Try.prog 165 ⟨Try.t165.desc, Try.t165, true⟩ := ⟨Try.underlying165, info_of Try.type165, fun h => by cases h⟩
theorem tok164 : TIok Try.prog 164 ⟨Try.t164.desc, Try.t164, true⟩ := ⟨Try.underlying164, info_of Try.type164, fun h => by cases h⟩
theorem tok163 : TIok Try.prog 163 ⟨Try.t163.desc, Try.t163, true⟩ := ⟨Try.underlying163, info_of Try.type163, fun h => by cases h⟩
theorem tok181 : TIok Try.prog 181 ⟨Try.t181.desc, Try.t181, true⟩ := ⟨Try.underlying181, info_of Try.type181, fun h => by cases h⟩
theorem tok191 : TIok Try.prog 191 ⟨Try.t191.desc, Try.t191, true⟩ := ⟨Try.underlying191, info_of Try.type191, fun h => by cases h⟩
theorem tok189 : TIok Try.prog 189 ⟨Try.t189.desc, Try.t189, true⟩ := ⟨Try.underlying189, info_of Try.type189, fun h => by cases h⟩
theorem tok214 : TIok Try.prog 214 ⟨Try.t214.desc, Try.t214, true⟩ := ⟨Try.underlying214, info_of Try.type214, fun h => by cases h⟩
theorem tok216 : TIok Try.prog 216 ⟨Try.t216.desc, Try.t216, true⟩ := ⟨Try.underlying216, info_of Try.type216, fun h => by cases h⟩
theorem tok215 : TIok Try.prog 215 ⟨Try.t215.desc, Try.t215, true⟩ := ⟨Try.underlying215, info_of Try.type215, fun h => by cases h⟩
theorem tok213 : TIok Try.prog 213 ⟨Try.t213.desc, Try.t213, true⟩ := ⟨Try.underlying213, info_of Try.type213, fun h => by cases h⟩
theorem tok212 : TIok Try.prog 212 ⟨Try.t212.desc, Try.t212, true⟩ := ⟨Try.underlying212, info_of Try.type212, fun h => by cases h⟩
theorem tok161 : TIok Try.prog 161 ⟨Try.t161.desc, Try.t161, true⟩ := ⟨Try.underlying161, info_of Try.type161, fun h => by cases h⟩
theorem tok264 : TIok Try.prog 264 ⟨Try.t264.desc, Try.t264, true⟩ := ⟨Try.underlying264, info_of Try.type264, fun h => by cases h⟩
theorem tok272 : TIok Try.prog 272 ⟨Try.t272.desc, Try.t272, true⟩ := ⟨Try.underlying272, info_of Try.type272, fun h => by cases h⟩
theorem tok246 : TIok Try.prog 246 ⟨Try.t246.desc, Try.t246, true⟩ := ⟨Try.underlying246, info_of Try.type246, fun h => by cases h⟩
theorem tok218 : TIok Try.prog 218 ⟨Try.t218.desc, Try.t218, true⟩ := ⟨Try.underlying218, info_of Try.type218, fun h => by cases h⟩
theorem TOk : TabOk Try.prog T := ⟨tok3, tok48, tok22, tok21, tok43, tok4, tok30, tok5, tok9, tok24, tok26, tok27, tok29, tok38, tok40, tok51, tok54, tok63, tok67, tok70, tok74, tok76, tok80, tok96, tok100, tok113, tok116, tok120, tok125, tok132, tok134, tok136, tok138, tok148, tok150, tok152, tok155, tok159, tok186, tok187, tok190, tok196, tok198, tok200, tok202, tok207, tok209, tok211, tok223, tok226, tok228, tok233, tok240, tok244, tok248, tok251, tok261, tok268, tok224, tok290, tok292, tok293, tok294, tok295, tok296, tok165, tok164, tok163, tok181, tok191, tok189, tok214, tok216, tok215, tok213, tok212, tok161, tok264, tok272, tok246, tok218, trivial⟩
theorem sl48 : slT T 48 = some (21, 1, 4, (Go.Value.int Go.IntKind.i32 0)) := by rfl
theorem sl22 : slT T 22 = some (48, 1, 24, (Go.Value.slice none 0 0)) := by rfl
theorem sl136 : slT T 136 = some (3, 1, 8, (Go.Value.int Go.IntKind.i64 0)) := by rfl
theorem sl150 : slT T 150 = some (233, 2, 32, (Go.Value.agg #[Go.Value.slice none 0 0, Go.Value.int Go.IntKind.i64 0])) := by rfl
theorem sl223 : slT T 223 = some (228, 2, 16, (Go.Value.agg #[Go.Value.int Go.IntKind.i64 0, Go.Value.int Go.IntKind.i64 0])) := by rfl
theorem sl29 : slT T 29 = some (24, 3, 56, (Go.Value.agg #[Go.Value.int Go.IntKind.i64 0, Go.Value.slice none 0 0, Go.Value.slice none 0 0])) := by rfl
theorem sl132 : slT T 132 = some (138, 3, 56, (Go.Value.agg #[Go.Value.int Go.IntKind.i64 0, Go.Value.slice none 0 0, Go.Value.slice none 0 0])) := by rfl
theorem sl207 : slT T 207 = some (211, 2, 48, (Go.Value.agg #[Go.Value.slice none 0 0, Go.Value.slice none 0 0])) := by rfl
theorem sl76 : slT T 76 = some (80, 8, 96, (Go.Value.agg #[Go.Value.int Go.IntKind.i64 0, Go.Value.int Go.IntKind.i64 0, Go.Value.int Go.IntKind.i64 0, Go.Value.int Go.IntKind.i64 0, Go.Value.int Go.IntKind.i64 0, Go.Value.int Go.IntKind.i64 0, Go.Value.slice none 0 0, Go.Value.slice none 0 0])) := by rfl
theorem sl120 : slT T 120 = some (4, 1, 1, (Go.Value.bool false)) := by rfl
theorem sl224 : slT T 224 = some (223, 1, 24, (Go.Value.slice none 0 0)) := by rfl
theorem es48 : elsz T 48 = some 1 := by rfl
theorem es22 : elsz T 22 = some 1 := by rfl
theorem es136 : elsz T 136 = some 1 := by rfl
theorem es150 : elsz T 150 = some 2 := by rfl
theorem es223 : elsz T 223 = some 2 := by rfl
theorem es29 : elsz T 29 = some 3 := by rfl
theorem es132 : elsz T 132 = some 3 := by rfl
theorem es207 : elsz T 207 = some 2 := by rfl
theorem es76 : elsz T 76 = some 8 := by rfl
theorem es120 : elsz T 120 = some 1 := by rfl
theorem es224 : elsz T 224 = some 1 := by rfl
end Eng
end Go.Proofs.Ytdfibmbedjpcgaa
