/-
  No cell of these rows narrows 'for every input' (looked for: loops, veiled, ifaces, maps, wideKeys, modest, calm, conditions, laid).
  DERIVED. THE GIVEN ROWS OF THIS SEAT. 25 by the template 'for every input the law returns true; each argument reads behind the call as it read before'; 0 by the template 'total and deterministic' (their statements: YtdfibmbedjpcgaaTotals.lean).
  GIVEN WITH THE SEED: the statements are not yours to turn. If you find one false, say at which input.
  Laid BY PROGRAM, IN A SANDBOX (cutbox-rows.mjs): the forced cells as the released guide's own fill.sh prints them over the translation dece7eee6ec8d69a… (all of the seat's roots in one cut). By AI agents, Wed Nov 11 2026. No macro, syntax, notation, axiom, sorry.
-/
import Derived.Test.YtdfibmbedjpcgaaChecked
import GoSem.Claim
import GoSem.ClaimJoined
import GoSem.ClaimMapViews
import Derived.JoinedTies
import Derived.KernelRfl
namespace Go.Proofs.Ytdfibmbedjpcgaa
/- THE CELL 'sum', in the pinned program and in every row, IS THE sha256 OF THE DUMP (.gsa) THAT YtdfibmbedjpcgaaProg.lean LOADS. Nothing in Lean hashes anything: it is a label: what it is worth is what the hold of that sum in a sandbox is worth. -/
noncomputable def Try.pinned : Pinned := { name := "ytdfibmbedjpcgaa", sum := "dece7eee6ec8d69a649157aad25d87465a52cbf954f7c356cf7ff4f83afb83e4", checked := Try.checked }
namespace Rows
def none {H : Type} : Left H := { results := [], args := [] }

/-- 'inkhornlaw05.UndoNone': WHATEVER THE INPUT: true; the input reads as it did. -/
def undoNoneSpec : ChangeSpec := { name := "undoNone", fn := fun _ => fun
  | [d] => { results := [.lit (.bool true)], args := [d] }
  | _ => none }
def undoNoneRow : OpenClaim := { program := "ytdfibmbedjpcgaa", sum := "dece7eee6ec8d69a649157aad25d87465a52cbf954f7c356cf7ff4f83afb83e4", func := "inkhorn/inkhornlaw05.UndoNone", spec := "undoNone", unfollowed := true, recurses := true, apart := false }
def UndoNoneSaid : Prop := undoNoneRow.holds Try.pinned (OpenSpec.ofChange undoNoneSpec)

/-- ITS FALSE NEIGHBOUR: 'it returns false'. Refute it at one input. -/
def undoNoneWrong : ChangeSpec := { name := "undoNone", fn := fun _ => fun
  | [d] => { results := [.lit (.bool false)], args := [d] }
  | _ => none }
def UndoNoneWrongFalsely : Prop := undoNoneRow.holds Try.pinned (OpenSpec.ofChange undoNoneWrong)

/-- 'inkhornlaw04.TextTurns': WHATEVER THE INPUT: true; the input reads as it did. -/
def textTurnsSpec : ChangeSpec := { name := "textTurns", fn := fun _ => fun
  | [d] => { results := [.lit (.bool true)], args := [d] }
  | _ => none }
def textTurnsRow : OpenClaim := { program := "ytdfibmbedjpcgaa", sum := "dece7eee6ec8d69a649157aad25d87465a52cbf954f7c356cf7ff4f83afb83e4", func := "inkhorn/inkhornlaw04.TextTurns", spec := "textTurns", apart := false }
def TextTurnsSaid : Prop := textTurnsRow.holds Try.pinned (OpenSpec.ofChange textTurnsSpec)

/-- ITS FALSE NEIGHBOUR: 'it returns false'. Refute it at one input. -/
def textTurnsWrong : ChangeSpec := { name := "textTurns", fn := fun _ => fun
  | [d] => { results := [.lit (.bool false)], args := [d] }
  | _ => none }
def TextTurnsWrongFalsely : Prop := textTurnsRow.holds Try.pinned (OpenSpec.ofChange textTurnsWrong)

/-- 'inkhornlaw04.TextLong': WHATEVER THE INPUT: true; the input reads as it did. -/
def textLongSpec : ChangeSpec := { name := "textLong", fn := fun _ => fun
  | [d1, d2] => { results := [.lit (.bool true)], args := [d1, d2] }
  | _ => none }
def textLongRow : OpenClaim := { program := "ytdfibmbedjpcgaa", sum := "dece7eee6ec8d69a649157aad25d87465a52cbf954f7c356cf7ff4f83afb83e4", func := "inkhorn/inkhornlaw04.TextLong", spec := "textLong", apart := false }
def TextLongSaid : Prop := textLongRow.holds Try.pinned (OpenSpec.ofChange textLongSpec)

/-- ITS FALSE NEIGHBOUR: 'it returns false'. Refute it at one input. -/
def textLongWrong : ChangeSpec := { name := "textLong", fn := fun _ => fun
  | [d1, d2] => { results := [.lit (.bool false)], args := [d1, d2] }
  | _ => none }
def TextLongWrongFalsely : Prop := textLongRow.holds Try.pinned (OpenSpec.ofChange textLongWrong)

/-- 'inkhornlaw13.OperTakes': WHATEVER THE INPUT: true; the input reads as it did. -/
def operTakesSpec : ChangeSpec := { name := "operTakes", fn := fun _ => fun
  | [d1, d2] => { results := [.lit (.bool true)], args := [d1, d2] }
  | _ => none }
def operTakesRow : OpenClaim := { program := "ytdfibmbedjpcgaa", sum := "dece7eee6ec8d69a649157aad25d87465a52cbf954f7c356cf7ff4f83afb83e4", func := "inkhorn/inkhornlaw13.OperTakes", spec := "operTakes", unfollowed := true, recurses := true, apart := false }
def OperTakesSaid : Prop := operTakesRow.holds Try.pinned (OpenSpec.ofChange operTakesSpec)

/-- ITS FALSE NEIGHBOUR: 'it returns false'. Refute it at one input. -/
def operTakesWrong : ChangeSpec := { name := "operTakes", fn := fun _ => fun
  | [d1, d2] => { results := [.lit (.bool false)], args := [d1, d2] }
  | _ => none }
def OperTakesWrongFalsely : Prop := operTakesRow.holds Try.pinned (OpenSpec.ofChange operTakesWrong)

/-- 'inkhornlaw13.OperCuts': WHATEVER THE INPUT: true; the input reads as it did. -/
def operCutsSpec : ChangeSpec := { name := "operCuts", fn := fun _ => fun
  | [d1, d2] => { results := [.lit (.bool true)], args := [d1, d2] }
  | _ => none }
def operCutsRow : OpenClaim := { program := "ytdfibmbedjpcgaa", sum := "dece7eee6ec8d69a649157aad25d87465a52cbf954f7c356cf7ff4f83afb83e4", func := "inkhorn/inkhornlaw13.OperCuts", spec := "operCuts", unfollowed := true, recurses := true, apart := false }
def OperCutsSaid : Prop := operCutsRow.holds Try.pinned (OpenSpec.ofChange operCutsSpec)

/-- ITS FALSE NEIGHBOUR: 'it returns false'. Refute it at one input. -/
def operCutsWrong : ChangeSpec := { name := "operCuts", fn := fun _ => fun
  | [d1, d2] => { results := [.lit (.bool false)], args := [d1, d2] }
  | _ => none }
def OperCutsWrongFalsely : Prop := operCutsRow.holds Try.pinned (OpenSpec.ofChange operCutsWrong)

/-- 'inkhornlaw13.OperPastes': WHATEVER THE INPUT: true; the input reads as it did. -/
def operPastesSpec : ChangeSpec := { name := "operPastes", fn := fun _ => fun
  | [d1, d2, d3] => { results := [.lit (.bool true)], args := [d1, d2, d3] }
  | _ => none }
def operPastesRow : OpenClaim := { program := "ytdfibmbedjpcgaa", sum := "dece7eee6ec8d69a649157aad25d87465a52cbf954f7c356cf7ff4f83afb83e4", func := "inkhorn/inkhornlaw13.OperPastes", spec := "operPastes", unfollowed := true, recurses := true, apart := false }
def OperPastesSaid : Prop := operPastesRow.holds Try.pinned (OpenSpec.ofChange operPastesSpec)

/-- ITS FALSE NEIGHBOUR: 'it returns false'. Refute it at one input. -/
def operPastesWrong : ChangeSpec := { name := "operPastes", fn := fun _ => fun
  | [d1, d2, d3] => { results := [.lit (.bool false)], args := [d1, d2, d3] }
  | _ => none }
def OperPastesWrongFalsely : Prop := operPastesRow.holds Try.pinned (OpenSpec.ofChange operPastesWrong)

/-- 'inkhornlaw13.OperFlat': WHATEVER THE INPUT: true; the input reads as it did. -/
def operFlatSpec : ChangeSpec := { name := "operFlat", fn := fun _ => fun
  | [d1, d2, d3] => { results := [.lit (.bool true)], args := [d1, d2, d3] }
  | _ => none }
def operFlatRow : OpenClaim := { program := "ytdfibmbedjpcgaa", sum := "dece7eee6ec8d69a649157aad25d87465a52cbf954f7c356cf7ff4f83afb83e4", func := "inkhorn/inkhornlaw13.OperFlat", spec := "operFlat", unfollowed := true, recurses := true, apart := false }
def OperFlatSaid : Prop := operFlatRow.holds Try.pinned (OpenSpec.ofChange operFlatSpec)

/-- ITS FALSE NEIGHBOUR: 'it returns false'. Refute it at one input. -/
def operFlatWrong : ChangeSpec := { name := "operFlat", fn := fun _ => fun
  | [d1, d2, d3] => { results := [.lit (.bool false)], args := [d1, d2, d3] }
  | _ => none }
def OperFlatWrongFalsely : Prop := operFlatRow.holds Try.pinned (OpenSpec.ofChange operFlatWrong)

/-- 'inkhornlaw13.OperBack': WHATEVER THE INPUT: true; the input reads as it did. -/
def operBackSpec : ChangeSpec := { name := "operBack", fn := fun _ => fun
  | [d1, d2] => { results := [.lit (.bool true)], args := [d1, d2] }
  | _ => none }
def operBackRow : OpenClaim := { program := "ytdfibmbedjpcgaa", sum := "dece7eee6ec8d69a649157aad25d87465a52cbf954f7c356cf7ff4f83afb83e4", func := "inkhorn/inkhornlaw13.OperBack", spec := "operBack", unfollowed := true, recurses := true, apart := false }
def OperBackSaid : Prop := operBackRow.holds Try.pinned (OpenSpec.ofChange operBackSpec)

/-- ITS FALSE NEIGHBOUR: 'it returns false'. Refute it at one input. -/
def operBackWrong : ChangeSpec := { name := "operBack", fn := fun _ => fun
  | [d1, d2] => { results := [.lit (.bool false)], args := [d1, d2] }
  | _ => none }
def OperBackWrongFalsely : Prop := operBackRow.holds Try.pinned (OpenSpec.ofChange operBackWrong)

/-- 'inkhornlaw04.TextPlays': WHATEVER THE INPUT: true; the input reads as it did. -/
def textPlaysSpec : ChangeSpec := { name := "textPlays", fn := fun _ => fun
  | [d1, d2] => { results := [.lit (.bool true)], args := [d1, d2] }
  | _ => none }
def textPlaysRow : OpenClaim := { program := "ytdfibmbedjpcgaa", sum := "dece7eee6ec8d69a649157aad25d87465a52cbf954f7c356cf7ff4f83afb83e4", func := "inkhorn/inkhornlaw04.TextPlays", spec := "textPlays", apart := false }
def TextPlaysSaid : Prop := textPlaysRow.holds Try.pinned (OpenSpec.ofChange textPlaysSpec)

/-- ITS FALSE NEIGHBOUR: 'it returns false'. Refute it at one input. -/
def textPlaysWrong : ChangeSpec := { name := "textPlays", fn := fun _ => fun
  | [d1, d2] => { results := [.lit (.bool false)], args := [d1, d2] }
  | _ => none }
def TextPlaysWrongFalsely : Prop := textPlaysRow.holds Try.pinned (OpenSpec.ofChange textPlaysWrong)

/-- 'inkhornlaw04.TextUndoes': WHATEVER THE INPUT: true; the input reads as it did. -/
def textUndoesSpec : ChangeSpec := { name := "textUndoes", fn := fun _ => fun
  | [d1, d2, d3] => { results := [.lit (.bool true)], args := [d1, d2, d3] }
  | _ => none }
def textUndoesRow : OpenClaim := { program := "ytdfibmbedjpcgaa", sum := "dece7eee6ec8d69a649157aad25d87465a52cbf954f7c356cf7ff4f83afb83e4", func := "inkhorn/inkhornlaw04.TextUndoes", spec := "textUndoes", apart := false }
def TextUndoesSaid : Prop := textUndoesRow.holds Try.pinned (OpenSpec.ofChange textUndoesSpec)

/-- ITS FALSE NEIGHBOUR: 'it returns false'. Refute it at one input. -/
def textUndoesWrong : ChangeSpec := { name := "textUndoes", fn := fun _ => fun
  | [d1, d2, d3] => { results := [.lit (.bool false)], args := [d1, d2, d3] }
  | _ => none }
def TextUndoesWrongFalsely : Prop := textUndoesRow.holds Try.pinned (OpenSpec.ofChange textUndoesWrong)

/-- 'inkhornlaw04.TextLines': WHATEVER THE INPUT: true; the input reads as it did. -/
def textLinesSpec : ChangeSpec := { name := "textLines", fn := fun _ => fun
  | [d1, d2, d3] => { results := [.lit (.bool true)], args := [d1, d2, d3] }
  | _ => none }
def textLinesRow : OpenClaim := { program := "ytdfibmbedjpcgaa", sum := "dece7eee6ec8d69a649157aad25d87465a52cbf954f7c356cf7ff4f83afb83e4", func := "inkhorn/inkhornlaw04.TextLines", spec := "textLines", apart := false }
def TextLinesSaid : Prop := textLinesRow.holds Try.pinned (OpenSpec.ofChange textLinesSpec)

/-- ITS FALSE NEIGHBOUR: 'it returns false'. Refute it at one input. -/
def textLinesWrong : ChangeSpec := { name := "textLines", fn := fun _ => fun
  | [d1, d2, d3] => { results := [.lit (.bool false)], args := [d1, d2, d3] }
  | _ => none }
def TextLinesWrongFalsely : Prop := textLinesRow.holds Try.pinned (OpenSpec.ofChange textLinesWrong)

/-- 'inkhornlaw04.TextSwaps': WHATEVER THE INPUT: true; the input reads as it did. -/
def textSwapsSpec : ChangeSpec := { name := "textSwaps", fn := fun _ => fun
  | [d1, d2, d3] => { results := [.lit (.bool true)], args := [d1, d2, d3] }
  | _ => none }
def textSwapsRow : OpenClaim := { program := "ytdfibmbedjpcgaa", sum := "dece7eee6ec8d69a649157aad25d87465a52cbf954f7c356cf7ff4f83afb83e4", func := "inkhorn/inkhornlaw04.TextSwaps", spec := "textSwaps", apart := false }
def TextSwapsSaid : Prop := textSwapsRow.holds Try.pinned (OpenSpec.ofChange textSwapsSpec)

/-- ITS FALSE NEIGHBOUR: 'it returns false'. Refute it at one input. -/
def textSwapsWrong : ChangeSpec := { name := "textSwaps", fn := fun _ => fun
  | [d1, d2, d3] => { results := [.lit (.bool false)], args := [d1, d2, d3] }
  | _ => none }
def TextSwapsWrongFalsely : Prop := textSwapsRow.holds Try.pinned (OpenSpec.ofChange textSwapsWrong)

/-- 'inkhornlaw04.TextNone': WHATEVER THE INPUT: true; the input reads as it did. -/
def textNoneSpec : ChangeSpec := { name := "textNone", fn := fun _ => fun
  | [d] => { results := [.lit (.bool true)], args := [d] }
  | _ => none }
def textNoneRow : OpenClaim := { program := "ytdfibmbedjpcgaa", sum := "dece7eee6ec8d69a649157aad25d87465a52cbf954f7c356cf7ff4f83afb83e4", func := "inkhorn/inkhornlaw04.TextNone", spec := "textNone", apart := false }
def TextNoneSaid : Prop := textNoneRow.holds Try.pinned (OpenSpec.ofChange textNoneSpec)

/-- ITS FALSE NEIGHBOUR: 'it returns false'. Refute it at one input. -/
def textNoneWrong : ChangeSpec := { name := "textNone", fn := fun _ => fun
  | [d] => { results := [.lit (.bool false)], args := [d] }
  | _ => none }
def TextNoneWrongFalsely : Prop := textNoneRow.holds Try.pinned (OpenSpec.ofChange textNoneWrong)

/-- 'inkhornlaw13.OperOvers': WHATEVER THE INPUT: true; the input reads as it did. -/
def operOversSpec : ChangeSpec := { name := "operOvers", fn := fun _ => fun
  | [d1, d2, d3] => { results := [.lit (.bool true)], args := [d1, d2, d3] }
  | _ => none }
def operOversRow : OpenClaim := { program := "ytdfibmbedjpcgaa", sum := "dece7eee6ec8d69a649157aad25d87465a52cbf954f7c356cf7ff4f83afb83e4", func := "inkhorn/inkhornlaw13.OperOvers", spec := "operOvers", unfollowed := true, recurses := true, apart := false }
def OperOversSaid : Prop := operOversRow.holds Try.pinned (OpenSpec.ofChange operOversSpec)

/-- ITS FALSE NEIGHBOUR: 'it returns false'. Refute it at one input. -/
def operOversWrong : ChangeSpec := { name := "operOvers", fn := fun _ => fun
  | [d1, d2, d3] => { results := [.lit (.bool false)], args := [d1, d2, d3] }
  | _ => none }
def OperOversWrongFalsely : Prop := operOversRow.holds Try.pinned (OpenSpec.ofChange operOversWrong)

/-- 'inkhornlaw10.MotionThere': WHATEVER THE INPUT: true; the input reads as it did. -/
def motionThereSpec : ChangeSpec := { name := "motionThere", fn := fun _ => fun
  | [d1, d2, d3] => { results := [.lit (.bool true)], args := [d1, d2, d3] }
  | _ => none }
def motionThereRow : OpenClaim := { program := "ytdfibmbedjpcgaa", sum := "dece7eee6ec8d69a649157aad25d87465a52cbf954f7c356cf7ff4f83afb83e4", func := "inkhorn/inkhornlaw10.MotionThere", spec := "motionThere", inPlace := ["internal/bytealg.IndexByteString"], unfollowed := true, recurses := true, apart := false }
def MotionThereSaid : Prop := motionThereRow.holds Try.pinned (OpenSpec.ofChange motionThereSpec)

/-- ITS FALSE NEIGHBOUR: 'it returns false'. Refute it at one input. -/
def motionThereWrong : ChangeSpec := { name := "motionThere", fn := fun _ => fun
  | [d1, d2, d3] => { results := [.lit (.bool false)], args := [d1, d2, d3] }
  | _ => none }
def MotionThereWrongFalsely : Prop := motionThereRow.holds Try.pinned (OpenSpec.ofChange motionThereWrong)

/-- 'inkhornlaw10.MotionCounts': WHATEVER THE INPUT: true; the input reads as it did. -/
def motionCountsSpec : ChangeSpec := { name := "motionCounts", fn := fun _ => fun
  | [d1, d2, d3] => { results := [.lit (.bool true)], args := [d1, d2, d3] }
  | _ => none }
def motionCountsRow : OpenClaim := { program := "ytdfibmbedjpcgaa", sum := "dece7eee6ec8d69a649157aad25d87465a52cbf954f7c356cf7ff4f83afb83e4", func := "inkhorn/inkhornlaw10.MotionCounts", spec := "motionCounts", inPlace := ["internal/bytealg.IndexByteString"], unfollowed := true, recurses := true, apart := false }
def MotionCountsSaid : Prop := motionCountsRow.holds Try.pinned (OpenSpec.ofChange motionCountsSpec)

/-- ITS FALSE NEIGHBOUR: 'it returns false'. Refute it at one input. -/
def motionCountsWrong : ChangeSpec := { name := "motionCounts", fn := fun _ => fun
  | [d1, d2, d3] => { results := [.lit (.bool false)], args := [d1, d2, d3] }
  | _ => none }
def MotionCountsWrongFalsely : Prop := motionCountsRow.holds Try.pinned (OpenSpec.ofChange motionCountsWrong)

/-- 'inkhornlaw10.MotionBrackets': WHATEVER THE INPUT: true; the input reads as it did. -/
def motionBracketsSpec : ChangeSpec := { name := "motionBrackets", fn := fun _ => fun
  | [d1, d2] => { results := [.lit (.bool true)], args := [d1, d2] }
  | _ => none }
def motionBracketsRow : OpenClaim := { program := "ytdfibmbedjpcgaa", sum := "dece7eee6ec8d69a649157aad25d87465a52cbf954f7c356cf7ff4f83afb83e4", func := "inkhorn/inkhornlaw10.MotionBrackets", spec := "motionBrackets", inPlace := ["internal/bytealg.IndexByteString"], unfollowed := true, recurses := true, apart := false }
def MotionBracketsSaid : Prop := motionBracketsRow.holds Try.pinned (OpenSpec.ofChange motionBracketsSpec)

/-- ITS FALSE NEIGHBOUR: 'it returns false'. Refute it at one input. -/
def motionBracketsWrong : ChangeSpec := { name := "motionBrackets", fn := fun _ => fun
  | [d1, d2] => { results := [.lit (.bool false)], args := [d1, d2] }
  | _ => none }
def MotionBracketsWrongFalsely : Prop := motionBracketsRow.holds Try.pinned (OpenSpec.ofChange motionBracketsWrong)

/-- 'inkhornlaw10.MotionFinds': WHATEVER THE INPUT: true; the input reads as it did. -/
def motionFindsSpec : ChangeSpec := { name := "motionFinds", fn := fun _ => fun
  | [d1, d2, d3] => { results := [.lit (.bool true)], args := [d1, d2, d3] }
  | _ => none }
def motionFindsRow : OpenClaim := { program := "ytdfibmbedjpcgaa", sum := "dece7eee6ec8d69a649157aad25d87465a52cbf954f7c356cf7ff4f83afb83e4", func := "inkhorn/inkhornlaw10.MotionFinds", spec := "motionFinds", inPlace := ["internal/bytealg.IndexByteString"], unfollowed := true, recurses := true, apart := false }
def MotionFindsSaid : Prop := motionFindsRow.holds Try.pinned (OpenSpec.ofChange motionFindsSpec)

/-- ITS FALSE NEIGHBOUR: 'it returns false'. Refute it at one input. -/
def motionFindsWrong : ChangeSpec := { name := "motionFinds", fn := fun _ => fun
  | [d1, d2, d3] => { results := [.lit (.bool false)], args := [d1, d2, d3] }
  | _ => none }
def MotionFindsWrongFalsely : Prop := motionFindsRow.holds Try.pinned (OpenSpec.ofChange motionFindsWrong)

/-- 'inkhornlaw13.OperLines': WHATEVER THE INPUT: true; the input reads as it did. -/
def operLinesSpec : ChangeSpec := { name := "operLines", fn := fun _ => fun
  | [d1, d2, d3] => { results := [.lit (.bool true)], args := [d1, d2, d3] }
  | _ => none }
def operLinesRow : OpenClaim := { program := "ytdfibmbedjpcgaa", sum := "dece7eee6ec8d69a649157aad25d87465a52cbf954f7c356cf7ff4f83afb83e4", func := "inkhorn/inkhornlaw13.OperLines", spec := "operLines", unfollowed := true, recurses := true, apart := false }
def OperLinesSaid : Prop := operLinesRow.holds Try.pinned (OpenSpec.ofChange operLinesSpec)

/-- ITS FALSE NEIGHBOUR: 'it returns false'. Refute it at one input. -/
def operLinesWrong : ChangeSpec := { name := "operLines", fn := fun _ => fun
  | [d1, d2, d3] => { results := [.lit (.bool false)], args := [d1, d2, d3] }
  | _ => none }
def OperLinesWrongFalsely : Prop := operLinesRow.holds Try.pinned (OpenSpec.ofChange operLinesWrong)

/-- 'inkhornlaw13.OperTurns': WHATEVER THE INPUT: true; the input reads as it did. -/
def operTurnsSpec : ChangeSpec := { name := "operTurns", fn := fun _ => fun
  | [d1, d2, d3] => { results := [.lit (.bool true)], args := [d1, d2, d3] }
  | _ => none }
def operTurnsRow : OpenClaim := { program := "ytdfibmbedjpcgaa", sum := "dece7eee6ec8d69a649157aad25d87465a52cbf954f7c356cf7ff4f83afb83e4", func := "inkhorn/inkhornlaw13.OperTurns", spec := "operTurns", unfollowed := true, recurses := true, apart := false }
def OperTurnsSaid : Prop := operTurnsRow.holds Try.pinned (OpenSpec.ofChange operTurnsSpec)

/-- ITS FALSE NEIGHBOUR: 'it returns false'. Refute it at one input. -/
def operTurnsWrong : ChangeSpec := { name := "operTurns", fn := fun _ => fun
  | [d1, d2, d3] => { results := [.lit (.bool false)], args := [d1, d2, d3] }
  | _ => none }
def OperTurnsWrongFalsely : Prop := operTurnsRow.holds Try.pinned (OpenSpec.ofChange operTurnsWrong)

/-- 'inkhornlaw14.KeysCounts': WHATEVER THE INPUT: true; the input reads as it did. -/
def keysCountsSpec : ChangeSpec := { name := "keysCounts", fn := fun _ => fun
  | [d1, d2] => { results := [.lit (.bool true)], args := [d1, d2] }
  | _ => none }
def keysCountsRow : OpenClaim := { program := "ytdfibmbedjpcgaa", sum := "dece7eee6ec8d69a649157aad25d87465a52cbf954f7c356cf7ff4f83afb83e4", func := "inkhorn/inkhornlaw14.KeysCounts", spec := "keysCounts", unfollowed := true, recurses := true, apart := false }
def KeysCountsSaid : Prop := keysCountsRow.holds Try.pinned (OpenSpec.ofChange keysCountsSpec)

/-- ITS FALSE NEIGHBOUR: 'it returns false'. Refute it at one input. -/
def keysCountsWrong : ChangeSpec := { name := "keysCounts", fn := fun _ => fun
  | [d1, d2] => { results := [.lit (.bool false)], args := [d1, d2] }
  | _ => none }
def KeysCountsWrongFalsely : Prop := keysCountsRow.holds Try.pinned (OpenSpec.ofChange keysCountsWrong)

/-- 'inkhornlaw14.KeysFeeds': WHATEVER THE INPUT: true; the input reads as it did. -/
def keysFeedsSpec : ChangeSpec := { name := "keysFeeds", fn := fun _ => fun
  | [d1, d2] => { results := [.lit (.bool true)], args := [d1, d2] }
  | _ => none }
def keysFeedsRow : OpenClaim := { program := "ytdfibmbedjpcgaa", sum := "dece7eee6ec8d69a649157aad25d87465a52cbf954f7c356cf7ff4f83afb83e4", func := "inkhorn/inkhornlaw14.KeysFeeds", spec := "keysFeeds", unfollowed := true, recurses := true, apart := false }
def KeysFeedsSaid : Prop := keysFeedsRow.holds Try.pinned (OpenSpec.ofChange keysFeedsSpec)

/-- ITS FALSE NEIGHBOUR: 'it returns false'. Refute it at one input. -/
def keysFeedsWrong : ChangeSpec := { name := "keysFeeds", fn := fun _ => fun
  | [d1, d2] => { results := [.lit (.bool false)], args := [d1, d2] }
  | _ => none }
def KeysFeedsWrongFalsely : Prop := keysFeedsRow.holds Try.pinned (OpenSpec.ofChange keysFeedsWrong)

/-- 'inkhornlaw14.KeysApart': WHATEVER THE INPUT: true; the input reads as it did. -/
def keysApartSpec : ChangeSpec := { name := "keysApart", fn := fun _ => fun
  | [d1, d2, d3] => { results := [.lit (.bool true)], args := [d1, d2, d3] }
  | _ => none }
def keysApartRow : OpenClaim := { program := "ytdfibmbedjpcgaa", sum := "dece7eee6ec8d69a649157aad25d87465a52cbf954f7c356cf7ff4f83afb83e4", func := "inkhorn/inkhornlaw14.KeysApart", spec := "keysApart", unfollowed := true, recurses := true, apart := false }
def KeysApartSaid : Prop := keysApartRow.holds Try.pinned (OpenSpec.ofChange keysApartSpec)

/-- ITS FALSE NEIGHBOUR: 'it returns false'. Refute it at one input. -/
def keysApartWrong : ChangeSpec := { name := "keysApart", fn := fun _ => fun
  | [d1, d2, d3] => { results := [.lit (.bool false)], args := [d1, d2, d3] }
  | _ => none }
def KeysApartWrongFalsely : Prop := keysApartRow.holds Try.pinned (OpenSpec.ofChange keysApartWrong)

/-- 'inkhornlaw14.KeysPlain': WHATEVER THE INPUT: true; the input reads as it did. -/
def keysPlainSpec : ChangeSpec := { name := "keysPlain", fn := fun _ => fun
  | [d1, d2] => { results := [.lit (.bool true)], args := [d1, d2] }
  | _ => none }
def keysPlainRow : OpenClaim := { program := "ytdfibmbedjpcgaa", sum := "dece7eee6ec8d69a649157aad25d87465a52cbf954f7c356cf7ff4f83afb83e4", func := "inkhorn/inkhornlaw14.KeysPlain", spec := "keysPlain", unfollowed := true, recurses := true, apart := false }
def KeysPlainSaid : Prop := keysPlainRow.holds Try.pinned (OpenSpec.ofChange keysPlainSpec)

/-- ITS FALSE NEIGHBOUR: 'it returns false'. Refute it at one input. -/
def keysPlainWrong : ChangeSpec := { name := "keysPlain", fn := fun _ => fun
  | [d1, d2] => { results := [.lit (.bool false)], args := [d1, d2] }
  | _ => none }
def KeysPlainWrongFalsely : Prop := keysPlainRow.holds Try.pinned (OpenSpec.ofChange keysPlainWrong)

/-- 'inkhornlaw14.KeysFull': WHATEVER THE INPUT: true; the input reads as it did. -/
def keysFullSpec : ChangeSpec := { name := "keysFull", fn := fun _ => fun
  | [d] => { results := [.lit (.bool true)], args := [d] }
  | _ => none }
def keysFullRow : OpenClaim := { program := "ytdfibmbedjpcgaa", sum := "dece7eee6ec8d69a649157aad25d87465a52cbf954f7c356cf7ff4f83afb83e4", func := "inkhorn/inkhornlaw14.KeysFull", spec := "keysFull", unfollowed := true, recurses := true, apart := false }
def KeysFullSaid : Prop := keysFullRow.holds Try.pinned (OpenSpec.ofChange keysFullSpec)

/-- ITS FALSE NEIGHBOUR: 'it returns false'. Refute it at one input. -/
def keysFullWrong : ChangeSpec := { name := "keysFull", fn := fun _ => fun
  | [d] => { results := [.lit (.bool false)], args := [d] }
  | _ => none }
def KeysFullWrongFalsely : Prop := keysFullRow.holds Try.pinned (OpenSpec.ofChange keysFullWrong)

/- THE SECOND FORM. 'bulk': how many values and letters a reading holds, each counted each time it is reached (what is shared counts as often as it is met; a slice's spare places count too). A statement '..UptoSaid' is the law's where the arguments, and the package variables that the reading takes, are together of bulk at most 1048576: NARROWER than '..Said'. Prove '..Said' where nothing that the law and all that it calls make is longer than what came in: it says more and counts as full. Else prove '..UptoSaid'. A law counts once. -/
mutual
def uptoBulk {H : Type} : DataW H → Nat
  | .lit (.string bytes) => bytes.length + 1
  | .lit _ => 1
  | .nil => 1
  | .ptr d => uptoBulk d + 1
  | .slice elems spare => uptoBulkAll elems + uptoBulkAll spare + 1
  | .agg parts => uptoBulkAll parts + 1
  | .iface _ d => uptoBulk d + 1
  | .map entries => uptoBulkEntries entries + 1
  | .held _ => 1
def uptoBulkAll {H : Type} : List (DataW H) → Nat
  | [] => 0
  | d :: r => uptoBulk d + uptoBulkAll r
def uptoBulkEntries {H : Type} : List (Lit × DataW H) → Nat
  | [] => 0
  | x :: r => uptoBulkEntry x + uptoBulkEntries r
def uptoBulkEntry {H : Type} : Lit × DataW H → Nat
  | (.string bytes, d) => bytes.length + uptoBulk d + 1
  | (_, d) => uptoBulk d + 1
 end
def uptoSmall : (H : Type) → List (DataW H) → Bool := fun _ ds => decide (uptoBulkAll ds ≤ 1048576)
def OpenSpec.upto (s : _root_.Go.ChangeSpec) : _root_.Go.OpenSpec := { _root_.Go.OpenSpec.ofChange s with cond := some uptoSmall }

/-- 'inkhornlaw05.UndoNone', WHERE WHAT IT READS IS OF BULK AT MOST 1048576: true; the input reads as it did. -/
def undoNoneUptoRow : OpenClaim := { program := "ytdfibmbedjpcgaa", sum := "dece7eee6ec8d69a649157aad25d87465a52cbf954f7c356cf7ff4f83afb83e4", func := "inkhorn/inkhornlaw05.UndoNone", spec := "undoNone", unfollowed := true, recurses := true, apart := false, narrowed := true }
def UndoNoneUptoSaid : Prop := undoNoneUptoRow.holds Try.pinned (OpenSpec.upto undoNoneSpec)

/-- 'inkhornlaw04.TextTurns', WHERE WHAT IT READS IS OF BULK AT MOST 1048576: true; the input reads as it did. -/
def textTurnsUptoRow : OpenClaim := { program := "ytdfibmbedjpcgaa", sum := "dece7eee6ec8d69a649157aad25d87465a52cbf954f7c356cf7ff4f83afb83e4", func := "inkhorn/inkhornlaw04.TextTurns", spec := "textTurns", apart := false, narrowed := true }
def TextTurnsUptoSaid : Prop := textTurnsUptoRow.holds Try.pinned (OpenSpec.upto textTurnsSpec)

/-- 'inkhornlaw04.TextLong', WHERE WHAT IT READS IS OF BULK AT MOST 1048576: true; the input reads as it did. -/
def textLongUptoRow : OpenClaim := { program := "ytdfibmbedjpcgaa", sum := "dece7eee6ec8d69a649157aad25d87465a52cbf954f7c356cf7ff4f83afb83e4", func := "inkhorn/inkhornlaw04.TextLong", spec := "textLong", apart := false, narrowed := true }
def TextLongUptoSaid : Prop := textLongUptoRow.holds Try.pinned (OpenSpec.upto textLongSpec)

/-- 'inkhornlaw13.OperTakes', WHERE WHAT IT READS IS OF BULK AT MOST 1048576: true; the input reads as it did. -/
def operTakesUptoRow : OpenClaim := { program := "ytdfibmbedjpcgaa", sum := "dece7eee6ec8d69a649157aad25d87465a52cbf954f7c356cf7ff4f83afb83e4", func := "inkhorn/inkhornlaw13.OperTakes", spec := "operTakes", unfollowed := true, recurses := true, apart := false, narrowed := true }
def OperTakesUptoSaid : Prop := operTakesUptoRow.holds Try.pinned (OpenSpec.upto operTakesSpec)

/-- 'inkhornlaw13.OperCuts', WHERE WHAT IT READS IS OF BULK AT MOST 1048576: true; the input reads as it did. -/
def operCutsUptoRow : OpenClaim := { program := "ytdfibmbedjpcgaa", sum := "dece7eee6ec8d69a649157aad25d87465a52cbf954f7c356cf7ff4f83afb83e4", func := "inkhorn/inkhornlaw13.OperCuts", spec := "operCuts", unfollowed := true, recurses := true, apart := false, narrowed := true }
def OperCutsUptoSaid : Prop := operCutsUptoRow.holds Try.pinned (OpenSpec.upto operCutsSpec)

/-- 'inkhornlaw13.OperPastes', WHERE WHAT IT READS IS OF BULK AT MOST 1048576: true; the input reads as it did. -/
def operPastesUptoRow : OpenClaim := { program := "ytdfibmbedjpcgaa", sum := "dece7eee6ec8d69a649157aad25d87465a52cbf954f7c356cf7ff4f83afb83e4", func := "inkhorn/inkhornlaw13.OperPastes", spec := "operPastes", unfollowed := true, recurses := true, apart := false, narrowed := true }
def OperPastesUptoSaid : Prop := operPastesUptoRow.holds Try.pinned (OpenSpec.upto operPastesSpec)

/-- 'inkhornlaw13.OperFlat', WHERE WHAT IT READS IS OF BULK AT MOST 1048576: true; the input reads as it did. -/
def operFlatUptoRow : OpenClaim := { program := "ytdfibmbedjpcgaa", sum := "dece7eee6ec8d69a649157aad25d87465a52cbf954f7c356cf7ff4f83afb83e4", func := "inkhorn/inkhornlaw13.OperFlat", spec := "operFlat", unfollowed := true, recurses := true, apart := false, narrowed := true }
def OperFlatUptoSaid : Prop := operFlatUptoRow.holds Try.pinned (OpenSpec.upto operFlatSpec)

/-- 'inkhornlaw13.OperBack', WHERE WHAT IT READS IS OF BULK AT MOST 1048576: true; the input reads as it did. -/
def operBackUptoRow : OpenClaim := { program := "ytdfibmbedjpcgaa", sum := "dece7eee6ec8d69a649157aad25d87465a52cbf954f7c356cf7ff4f83afb83e4", func := "inkhorn/inkhornlaw13.OperBack", spec := "operBack", unfollowed := true, recurses := true, apart := false, narrowed := true }
def OperBackUptoSaid : Prop := operBackUptoRow.holds Try.pinned (OpenSpec.upto operBackSpec)

/-- 'inkhornlaw04.TextPlays', WHERE WHAT IT READS IS OF BULK AT MOST 1048576: true; the input reads as it did. -/
def textPlaysUptoRow : OpenClaim := { program := "ytdfibmbedjpcgaa", sum := "dece7eee6ec8d69a649157aad25d87465a52cbf954f7c356cf7ff4f83afb83e4", func := "inkhorn/inkhornlaw04.TextPlays", spec := "textPlays", apart := false, narrowed := true }
def TextPlaysUptoSaid : Prop := textPlaysUptoRow.holds Try.pinned (OpenSpec.upto textPlaysSpec)

/-- 'inkhornlaw04.TextUndoes', WHERE WHAT IT READS IS OF BULK AT MOST 1048576: true; the input reads as it did. -/
def textUndoesUptoRow : OpenClaim := { program := "ytdfibmbedjpcgaa", sum := "dece7eee6ec8d69a649157aad25d87465a52cbf954f7c356cf7ff4f83afb83e4", func := "inkhorn/inkhornlaw04.TextUndoes", spec := "textUndoes", apart := false, narrowed := true }
def TextUndoesUptoSaid : Prop := textUndoesUptoRow.holds Try.pinned (OpenSpec.upto textUndoesSpec)

/-- 'inkhornlaw04.TextLines', WHERE WHAT IT READS IS OF BULK AT MOST 1048576: true; the input reads as it did. -/
def textLinesUptoRow : OpenClaim := { program := "ytdfibmbedjpcgaa", sum := "dece7eee6ec8d69a649157aad25d87465a52cbf954f7c356cf7ff4f83afb83e4", func := "inkhorn/inkhornlaw04.TextLines", spec := "textLines", apart := false, narrowed := true }
def TextLinesUptoSaid : Prop := textLinesUptoRow.holds Try.pinned (OpenSpec.upto textLinesSpec)

/-- 'inkhornlaw04.TextSwaps', WHERE WHAT IT READS IS OF BULK AT MOST 1048576: true; the input reads as it did. -/
def textSwapsUptoRow : OpenClaim := { program := "ytdfibmbedjpcgaa", sum := "dece7eee6ec8d69a649157aad25d87465a52cbf954f7c356cf7ff4f83afb83e4", func := "inkhorn/inkhornlaw04.TextSwaps", spec := "textSwaps", apart := false, narrowed := true }
def TextSwapsUptoSaid : Prop := textSwapsUptoRow.holds Try.pinned (OpenSpec.upto textSwapsSpec)

/-- 'inkhornlaw04.TextNone', WHERE WHAT IT READS IS OF BULK AT MOST 1048576: true; the input reads as it did. -/
def textNoneUptoRow : OpenClaim := { program := "ytdfibmbedjpcgaa", sum := "dece7eee6ec8d69a649157aad25d87465a52cbf954f7c356cf7ff4f83afb83e4", func := "inkhorn/inkhornlaw04.TextNone", spec := "textNone", apart := false, narrowed := true }
def TextNoneUptoSaid : Prop := textNoneUptoRow.holds Try.pinned (OpenSpec.upto textNoneSpec)

/-- 'inkhornlaw13.OperOvers', WHERE WHAT IT READS IS OF BULK AT MOST 1048576: true; the input reads as it did. -/
def operOversUptoRow : OpenClaim := { program := "ytdfibmbedjpcgaa", sum := "dece7eee6ec8d69a649157aad25d87465a52cbf954f7c356cf7ff4f83afb83e4", func := "inkhorn/inkhornlaw13.OperOvers", spec := "operOvers", unfollowed := true, recurses := true, apart := false, narrowed := true }
def OperOversUptoSaid : Prop := operOversUptoRow.holds Try.pinned (OpenSpec.upto operOversSpec)

/-- 'inkhornlaw10.MotionThere', WHERE WHAT IT READS IS OF BULK AT MOST 1048576: true; the input reads as it did. -/
def motionThereUptoRow : OpenClaim := { program := "ytdfibmbedjpcgaa", sum := "dece7eee6ec8d69a649157aad25d87465a52cbf954f7c356cf7ff4f83afb83e4", func := "inkhorn/inkhornlaw10.MotionThere", spec := "motionThere", inPlace := ["internal/bytealg.IndexByteString"], unfollowed := true, recurses := true, apart := false, narrowed := true }
def MotionThereUptoSaid : Prop := motionThereUptoRow.holds Try.pinned (OpenSpec.upto motionThereSpec)

/-- 'inkhornlaw10.MotionCounts', WHERE WHAT IT READS IS OF BULK AT MOST 1048576: true; the input reads as it did. -/
def motionCountsUptoRow : OpenClaim := { program := "ytdfibmbedjpcgaa", sum := "dece7eee6ec8d69a649157aad25d87465a52cbf954f7c356cf7ff4f83afb83e4", func := "inkhorn/inkhornlaw10.MotionCounts", spec := "motionCounts", inPlace := ["internal/bytealg.IndexByteString"], unfollowed := true, recurses := true, apart := false, narrowed := true }
def MotionCountsUptoSaid : Prop := motionCountsUptoRow.holds Try.pinned (OpenSpec.upto motionCountsSpec)

/-- 'inkhornlaw10.MotionBrackets', WHERE WHAT IT READS IS OF BULK AT MOST 1048576: true; the input reads as it did. -/
def motionBracketsUptoRow : OpenClaim := { program := "ytdfibmbedjpcgaa", sum := "dece7eee6ec8d69a649157aad25d87465a52cbf954f7c356cf7ff4f83afb83e4", func := "inkhorn/inkhornlaw10.MotionBrackets", spec := "motionBrackets", inPlace := ["internal/bytealg.IndexByteString"], unfollowed := true, recurses := true, apart := false, narrowed := true }
def MotionBracketsUptoSaid : Prop := motionBracketsUptoRow.holds Try.pinned (OpenSpec.upto motionBracketsSpec)

/-- 'inkhornlaw10.MotionFinds', WHERE WHAT IT READS IS OF BULK AT MOST 1048576: true; the input reads as it did. -/
def motionFindsUptoRow : OpenClaim := { program := "ytdfibmbedjpcgaa", sum := "dece7eee6ec8d69a649157aad25d87465a52cbf954f7c356cf7ff4f83afb83e4", func := "inkhorn/inkhornlaw10.MotionFinds", spec := "motionFinds", inPlace := ["internal/bytealg.IndexByteString"], unfollowed := true, recurses := true, apart := false, narrowed := true }
def MotionFindsUptoSaid : Prop := motionFindsUptoRow.holds Try.pinned (OpenSpec.upto motionFindsSpec)

/-- 'inkhornlaw13.OperLines', WHERE WHAT IT READS IS OF BULK AT MOST 1048576: true; the input reads as it did. -/
def operLinesUptoRow : OpenClaim := { program := "ytdfibmbedjpcgaa", sum := "dece7eee6ec8d69a649157aad25d87465a52cbf954f7c356cf7ff4f83afb83e4", func := "inkhorn/inkhornlaw13.OperLines", spec := "operLines", unfollowed := true, recurses := true, apart := false, narrowed := true }
def OperLinesUptoSaid : Prop := operLinesUptoRow.holds Try.pinned (OpenSpec.upto operLinesSpec)

/-- 'inkhornlaw13.OperTurns', WHERE WHAT IT READS IS OF BULK AT MOST 1048576: true; the input reads as it did. -/
def operTurnsUptoRow : OpenClaim := { program := "ytdfibmbedjpcgaa", sum := "dece7eee6ec8d69a649157aad25d87465a52cbf954f7c356cf7ff4f83afb83e4", func := "inkhorn/inkhornlaw13.OperTurns", spec := "operTurns", unfollowed := true, recurses := true, apart := false, narrowed := true }
def OperTurnsUptoSaid : Prop := operTurnsUptoRow.holds Try.pinned (OpenSpec.upto operTurnsSpec)

/-- 'inkhornlaw14.KeysCounts', WHERE WHAT IT READS IS OF BULK AT MOST 1048576: true; the input reads as it did. -/
def keysCountsUptoRow : OpenClaim := { program := "ytdfibmbedjpcgaa", sum := "dece7eee6ec8d69a649157aad25d87465a52cbf954f7c356cf7ff4f83afb83e4", func := "inkhorn/inkhornlaw14.KeysCounts", spec := "keysCounts", unfollowed := true, recurses := true, apart := false, narrowed := true }
def KeysCountsUptoSaid : Prop := keysCountsUptoRow.holds Try.pinned (OpenSpec.upto keysCountsSpec)

/-- 'inkhornlaw14.KeysFeeds', WHERE WHAT IT READS IS OF BULK AT MOST 1048576: true; the input reads as it did. -/
def keysFeedsUptoRow : OpenClaim := { program := "ytdfibmbedjpcgaa", sum := "dece7eee6ec8d69a649157aad25d87465a52cbf954f7c356cf7ff4f83afb83e4", func := "inkhorn/inkhornlaw14.KeysFeeds", spec := "keysFeeds", unfollowed := true, recurses := true, apart := false, narrowed := true }
def KeysFeedsUptoSaid : Prop := keysFeedsUptoRow.holds Try.pinned (OpenSpec.upto keysFeedsSpec)

/-- 'inkhornlaw14.KeysApart', WHERE WHAT IT READS IS OF BULK AT MOST 1048576: true; the input reads as it did. -/
def keysApartUptoRow : OpenClaim := { program := "ytdfibmbedjpcgaa", sum := "dece7eee6ec8d69a649157aad25d87465a52cbf954f7c356cf7ff4f83afb83e4", func := "inkhorn/inkhornlaw14.KeysApart", spec := "keysApart", unfollowed := true, recurses := true, apart := false, narrowed := true }
def KeysApartUptoSaid : Prop := keysApartUptoRow.holds Try.pinned (OpenSpec.upto keysApartSpec)

/-- 'inkhornlaw14.KeysPlain', WHERE WHAT IT READS IS OF BULK AT MOST 1048576: true; the input reads as it did. -/
def keysPlainUptoRow : OpenClaim := { program := "ytdfibmbedjpcgaa", sum := "dece7eee6ec8d69a649157aad25d87465a52cbf954f7c356cf7ff4f83afb83e4", func := "inkhorn/inkhornlaw14.KeysPlain", spec := "keysPlain", unfollowed := true, recurses := true, apart := false, narrowed := true }
def KeysPlainUptoSaid : Prop := keysPlainUptoRow.holds Try.pinned (OpenSpec.upto keysPlainSpec)

/-- 'inkhornlaw14.KeysFull', WHERE WHAT IT READS IS OF BULK AT MOST 1048576: true; the input reads as it did. -/
def keysFullUptoRow : OpenClaim := { program := "ytdfibmbedjpcgaa", sum := "dece7eee6ec8d69a649157aad25d87465a52cbf954f7c356cf7ff4f83afb83e4", func := "inkhorn/inkhornlaw14.KeysFull", spec := "keysFull", unfollowed := true, recurses := true, apart := false, narrowed := true }
def KeysFullUptoSaid : Prop := keysFullUptoRow.holds Try.pinned (OpenSpec.upto keysFullSpec)

end Rows
end Go.Proofs.Ytdfibmbedjpcgaa
