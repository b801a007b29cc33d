/- Facts on the program as a whole that the rows ask for: how it was laid, by its first words. -/
import Derived.Test.YtdfibmbedjpcgaaRows
import Derived.Test.YtdfibmbedjpcgaaChecked
import Derived.WalkKit
import Derived.ProofKit
namespace Go.Proofs.Ytdfibmbedjpcgaa
/-- The signs of its order of beginning, as numbers. -/
def ioNums : List Nat := [
  104, 97, 114, 110, 101, 115, 115, 32, 52, 48, 55, 99, 97, 50, 98, 102, 57, 55, 53, 53, 57, 101, 57, 51, 56, 54, 98, 97, 98, 53, 49, 101, 48, 52, 101,
  53, 49, 101, 52, 54, 102, 102, 100, 98, 97, 98, 57, 53, 52, 53, 48, 98, 52, 101, 51, 98, 52, 54, 56, 97, 98, 100, 102, 97, 101, 57, 48, 48, 49, 97,
  97, 99, 32, 99, 117, 116, 32, 97, 116, 32, 105, 110, 107, 104, 111, 114, 110, 47, 105, 110, 107, 104, 111, 114, 110, 108, 97, 119, 48, 53, 46, 85,
  110, 100, 111, 78, 111, 110, 101, 32, 105, 110, 107, 104, 111, 114, 110, 47, 105, 110, 107, 104, 111, 114, 110, 108, 97, 119, 48, 52, 46, 84, 101,
  120, 116, 84, 117, 114, 110, 115, 32, 105, 110, 107, 104, 111, 114, 110, 47, 105, 110, 107, 104, 111, 114, 110, 108, 97, 119, 48, 52, 46, 84, 101,
  120, 116, 76, 111, 110, 103, 32, 105, 110, 107, 104, 111, 114, 110, 47, 105, 110, 107, 104, 111, 114, 110, 108, 97, 119, 49, 51, 46, 79, 112, 101,
  114, 84, 97, 107, 101, 115, 32, 105, 110, 107, 104, 111, 114, 110, 47, 105, 110, 107, 104, 111, 114, 110, 108, 97, 119, 49, 51, 46, 79, 112, 101,
  114, 67, 117, 116, 115, 32, 105, 110, 107, 104, 111, 114, 110, 47, 105, 110, 107, 104, 111, 114, 110, 108, 97, 119, 49, 51, 46, 79, 112, 101, 114,
  80, 97, 115, 116, 101, 115, 32, 105, 110, 107, 104, 111, 114, 110, 47, 105, 110, 107, 104, 111, 114, 110, 108, 97, 119, 49, 51, 46, 79, 112, 101,
  114, 70, 108, 97, 116, 32, 105, 110, 107, 104, 111, 114, 110, 47, 105, 110, 107, 104, 111, 114, 110, 108, 97, 119, 49, 51, 46, 79, 112, 101, 114, 66,
  97, 99, 107, 32, 105, 110, 107, 104, 111, 114, 110, 47, 105, 110, 107, 104, 111, 114, 110, 108, 97, 119, 48, 52, 46, 84, 101, 120, 116, 80, 108, 97,
  121, 115, 32, 105, 110, 107, 104, 111, 114, 110, 47, 105, 110, 107, 104, 111, 114, 110, 108, 97, 119, 48, 52, 46, 84, 101, 120, 116, 85, 110, 100,
  111, 101, 115, 32, 105, 110, 107, 104, 111, 114, 110, 47, 105, 110, 107, 104, 111, 114, 110, 108, 97, 119, 48, 52, 46, 84, 101, 120, 116, 76, 105,
  110, 101, 115, 32, 105, 110, 107, 104, 111, 114, 110, 47, 105, 110, 107, 104, 111, 114, 110, 108, 97, 119, 48, 52, 46, 84, 101, 120, 116, 83, 119,
  97, 112, 115, 32, 105, 110, 107, 104, 111, 114, 110, 47, 105, 110, 107, 104, 111, 114, 110, 108, 97, 119, 48, 52, 46, 84, 101, 120, 116, 78, 111,
  110, 101, 32, 105, 110, 107, 104, 111, 114, 110, 47, 105, 110, 107, 104, 111, 114, 110, 108, 97, 119, 49, 51, 46, 79, 112, 101, 114, 79, 118, 101,
  114, 115, 32, 105, 110, 107, 104, 111, 114, 110, 47, 105, 110, 107, 104, 111, 114, 110, 108, 97, 119, 49, 48, 46, 77, 111, 116, 105, 111, 110, 84,
  104, 101, 114, 101, 32, 105, 110, 107, 104, 111, 114, 110, 47, 105, 110, 107, 104, 111, 114, 110, 108, 97, 119, 49, 48, 46, 77, 111, 116, 105, 111,
  110, 67, 111, 117, 110, 116, 115, 32, 105, 110, 107, 104, 111, 114, 110, 47, 105, 110, 107, 104, 111, 114, 110, 108, 97, 119, 49, 48, 46, 77, 111,
  116, 105, 111, 110, 66, 114, 97, 99, 107, 101, 116, 115, 32, 105, 110, 107, 104, 111, 114, 110, 47, 105, 110, 107, 104, 111, 114, 110, 108, 97, 119,
  49, 48, 46, 77, 111, 116, 105, 111, 110, 70, 105, 110, 100, 115, 32, 105, 110, 107, 104, 111, 114, 110, 47, 105, 110, 107, 104, 111, 114, 110, 108,
  97, 119, 49, 51, 46, 79, 112, 101, 114, 76, 105, 110, 101, 115, 32, 105, 110, 107, 104, 111, 114, 110, 47, 105, 110, 107, 104, 111, 114, 110, 108,
  97, 119, 49, 51, 46, 79, 112, 101, 114, 84, 117, 114, 110, 115, 32, 105, 110, 107, 104, 111, 114, 110, 47, 105, 110, 107, 104, 111, 114, 110, 108,
  97, 119, 49, 52, 46, 75, 101, 121, 115, 67, 111, 117, 110, 116, 115, 32, 105, 110, 107, 104, 111, 114, 110, 47, 105, 110, 107, 104, 111, 114, 110,
  108, 97, 119, 49, 52, 46, 75, 101, 121, 115, 70, 101, 101, 100, 115, 32, 105, 110, 107, 104, 111, 114, 110, 47, 105, 110, 107, 104, 111, 114, 110,
  108, 97, 119, 49, 52, 46, 75, 101, 121, 115, 65, 112, 97, 114, 116, 32, 105, 110, 107, 104, 111, 114, 110, 47, 105, 110, 107, 104, 111, 114, 110,
  108, 97, 119, 49, 52, 46, 75, 101, 121, 115, 80, 108, 97, 105, 110, 32, 105, 110, 107, 104, 111, 114, 110, 47, 105, 110, 107, 104, 111, 114, 110,
  108, 97, 119, 49, 52, 46, 75, 101, 121, 115, 70, 117, 108, 108]
theorem io_eq : Try.pinned.checked.prog.initOrder = String.ofList (ioNums.map Char.ofNat) := by kernel_rfl
theorem io_list : Try.pinned.checked.prog.initOrder.toList = ioNums.map Char.ofNat := by rw [io_eq, String.toList_ofList]
def ioWords : List (List Char) := behindMainWord (wordsSigns (ioNums.map Char.ofNat))
theorem words_eq : behindMainWord (wordsSigns (ioNums.map Char.ofNat)) = ([99, 117, 116].map Char.ofNat) :: ioWords.tail := by kernel_rfl
theorem cut_list : "cut".toList = [99, 117, 116].map Char.ofNat := by
  have h : "cut" = String.ofList ([99, 117, 116].map Char.ofNat) := by kernel_rfl
  rw [h, String.toList_ofList]
theorem gc_ : ("cut".toList == "gc".toList) = false := by decide +kernel
theorem spec_ : ("cut".toList == "spec".toList) = false := by decide +kernel
theorem carried_ : ("cut".toList == "carried".toList) = false := by decide +kernel
theorem cut_ : ("cut".toList == "cut".toList) = true := by
  generalize "cut".toList = l
  simp
theorem make_of {P : Program} {rest : List (List Char)} (h : behindMainWord (wordsSigns P.initOrder.toList) = "cut".toList :: rest) : P.make = some .cut := by
  unfold Program.make
  rw [h]
  simp only [gc_, spec_, cut_, Bool.or_false, Bool.true_or, Bool.false_eq_true, if_false, if_true]
theorem strip_ {rest : List (List Char)} : ∀ ws : List String, (ws.all fun o => !("cut".toList == o.toList)) = true → stripLifts ws ("cut".toList :: rest) = ([], "cut".toList :: rest) := by
  intro ws
  induction ws with
  | nil => intro _; rfl
  | cons o os ih =>
    intro h
    rw [List.all_cons, Bool.and_eq_true] at h
    have h1 : ("cut".toList == o.toList) = false := by simpa using h.1
    unfold stripLifts
    rw [h1]
    exact ih h.2
theorem liftWords_ : (liftWords.all fun o => !("cut".toList == o.toList)) = true := by decide +kernel
theorem mayEnter_of {P : Program} {rest : List (List Char)} (h : behindMainWord (wordsSigns P.initOrder.toList) = "cut".toList :: rest) (h1 : P.laysLater = false) (h2 : P.bearsReflect = false) (h3 : P.doorFits [] = true) : P.mayEnter = true := by
  unfold Program.mayEnter
  rw [h]
  simp only [strip_ liftWords liftWords_, gc_, spec_, carried_, h1, h2, h3, List.head?_cons]
  simp
theorem headLifts_of {P : Program} {rest : List (List Char)} (h : behindMainWord (wordsSigns P.initOrder.toList) = "cut".toList :: rest) : P.headLifts = [] := by
  unfold Program.headLifts
  rw [h]
  simp only [strip_ liftWords liftWords_]
  simp
theorem liftsFinal_of {P : Program} {rest : List (List Char)} (h : behindMainWord (wordsSigns P.initOrder.toList) = "cut".toList :: rest) : P.liftsFinal = false := by
  unfold Program.liftsFinal
  rw [headLifts_of h, h]
  simp only [List.head?_cons]
  have : (some "cut".toList == some "carried".toList) = false := by decide +kernel
  rw [this]
  simp
theorem words_ : behindMainWord (wordsSigns Try.pinned.checked.prog.initOrder.toList) = "cut".toList :: ioWords.tail := by
  rw [io_list, cut_list]
  exact words_eq
theorem laysLater_ : Try.pinned.checked.prog.laysLater = false := by kernel_rfl
theorem bearsReflect_ : Try.pinned.checked.prog.bearsReflect = false := by kernel_rfl
theorem doorFits_ : Try.pinned.checked.prog.doorFits [] = true := by kernel_rfl
theorem mayEnter_ : Try.pinned.checked.prog.mayEnter = true := mayEnter_of words_ laysLater_ bearsReflect_ doorFits_
theorem make_ : Try.pinned.checked.prog.make = some .cut := make_of words_
theorem liftsFinal_ : Try.pinned.checked.prog.liftsFinal = false := liftsFinal_of words_
end Go.Proofs.Ytdfibmbedjpcgaa
