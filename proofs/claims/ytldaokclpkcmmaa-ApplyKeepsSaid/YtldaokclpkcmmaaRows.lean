/-
  No cell of these rows narrows 'for every input' (looked for: loops, veiled, ifaces, maps, wideKeys, modest, calm, conditions, laid).
  DERIVED. THE GIVEN ROWS OF THIS SEAT. 10 by the template 'for every input the law returns true; each argument reads behind the call as it read before'; 0 by the template 'total and deterministic' (their statements: YtldaokclpkcmmaaTotals.lean).
  GIVEN WITH THE SEED: the statements are not yours to turn. If you find one false, say at which input.
  Laid BY PROGRAM, IN A SANDBOX (cutbox-rows.mjs): the forced cells as the released guide's own fill.sh prints them over the translation 6ccdbfd940e48176… (all of the seat's roots in one cut). By AI agents, Wed Nov 11 2026. No macro, syntax, notation, axiom, sorry.
-/
import Derived.Test.YtldaokclpkcmmaaChecked
import GoSem.Claim
import GoSem.ClaimJoined
import GoSem.ClaimMapViews
import Derived.JoinedTies
import Derived.KernelRfl
namespace Go.Proofs.Ytldaokclpkcmmaa
/- THE CELL 'sum', in the pinned program and in every row, IS THE sha256 OF THE DUMP (.gsa) THAT YtldaokclpkcmmaaProg.lean LOADS. Nothing in Lean hashes anything: it is a label: what it is worth is what the hold of that sum in a sandbox is worth. -/
noncomputable def Try.pinned : Pinned := { name := "ytldaokclpkcmmaa", sum := "6ccdbfd940e48176cce301cdc86dcc86f98b2d285db3f3e815364567c329bc00", checked := Try.checked }
namespace Rows
def none {H : Type} : Left H := { results := [], args := [] }

/-- 'minuetlaw2.CompsNormal': WHATEVER THE INPUT: true; the input reads as it did. -/
def compsNormalSpec : ChangeSpec := { name := "compsNormal", fn := fun _ => fun
  | [d] => { results := [.lit (.bool true)], args := [d] }
  | _ => none }
def compsNormalRow : OpenClaim := { program := "ytldaokclpkcmmaa", sum := "6ccdbfd940e48176cce301cdc86dcc86f98b2d285db3f3e815364567c329bc00", func := "minuet/minuetlaw2.CompsNormal", spec := "compsNormal", recurses := true, apart := false }
def CompsNormalSaid : Prop := compsNormalRow.holds Try.pinned (OpenSpec.ofChange compsNormalSpec)

/-- ITS FALSE NEIGHBOUR: 'it returns false'. Refute it at one input. -/
def compsNormalWrong : ChangeSpec := { name := "compsNormal", fn := fun _ => fun
  | [d] => { results := [.lit (.bool false)], args := [d] }
  | _ => none }
def CompsNormalWrongFalsely : Prop := compsNormalRow.holds Try.pinned (OpenSpec.ofChange compsNormalWrong)

/-- 'minuetlaw6.CursorSigns': WHATEVER THE INPUT: true; the input reads as it did. -/
def cursorSignsSpec : ChangeSpec := { name := "cursorSigns", fn := fun _ => fun
  | [d1, d2, d3] => { results := [.lit (.bool true)], args := [d1, d2, d3] }
  | _ => none }
def cursorSignsRow : OpenClaim := { program := "ytldaokclpkcmmaa", sum := "6ccdbfd940e48176cce301cdc86dcc86f98b2d285db3f3e815364567c329bc00", func := "minuet/minuetlaw6.CursorSigns", spec := "cursorSigns", recurses := true, apart := false }
def CursorSignsSaid : Prop := cursorSignsRow.holds Try.pinned (OpenSpec.ofChange cursorSignsSpec)

/-- ITS FALSE NEIGHBOUR: 'it returns false'. Refute it at one input. -/
def cursorSignsWrong : ChangeSpec := { name := "cursorSigns", fn := fun _ => fun
  | [d1, d2, d3] => { results := [.lit (.bool false)], args := [d1, d2, d3] }
  | _ => none }
def CursorSignsWrongFalsely : Prop := cursorSignsRow.holds Try.pinned (OpenSpec.ofChange cursorSignsWrong)

/-- 'minuetlaw3.ApplyKeeps': WHATEVER THE INPUT: true; the input reads as it did. -/
def applyKeepsSpec : ChangeSpec := { name := "applyKeeps", fn := fun _ => fun
  | [d1, d2] => { results := [.lit (.bool true)], args := [d1, d2] }
  | _ => none }
def applyKeepsRow : OpenClaim := { program := "ytldaokclpkcmmaa", sum := "6ccdbfd940e48176cce301cdc86dcc86f98b2d285db3f3e815364567c329bc00", func := "minuet/minuetlaw3.ApplyKeeps", spec := "applyKeeps", inPlace := ["internal/abi.NoEscape"], apart := false }
def ApplyKeepsSaid : Prop := applyKeepsRow.holds Try.pinned (OpenSpec.ofChange applyKeepsSpec)

/-- ITS FALSE NEIGHBOUR: 'it returns false'. Refute it at one input. -/
def applyKeepsWrong : ChangeSpec := { name := "applyKeeps", fn := fun _ => fun
  | [d1, d2] => { results := [.lit (.bool false)], args := [d1, d2] }
  | _ => none }
def ApplyKeepsWrongFalsely : Prop := applyKeepsRow.holds Try.pinned (OpenSpec.ofChange applyKeepsWrong)

/-- 'minuetlaw4.Composes': WHATEVER THE INPUT: true; the input reads as it did. -/
def composesSpec : ChangeSpec := { name := "composes", fn := fun _ => fun
  | [d1, d2] => { results := [.lit (.bool true)], args := [d1, d2] }
  | _ => none }
def composesRow : OpenClaim := { program := "ytldaokclpkcmmaa", sum := "6ccdbfd940e48176cce301cdc86dcc86f98b2d285db3f3e815364567c329bc00", func := "minuet/minuetlaw4.Composes", spec := "composes", recurses := true, apart := false }
def ComposesSaid : Prop := composesRow.holds Try.pinned (OpenSpec.ofChange composesSpec)

/-- ITS FALSE NEIGHBOUR: 'it returns false'. Refute it at one input. -/
def composesWrong : ChangeSpec := { name := "composes", fn := fun _ => fun
  | [d1, d2] => { results := [.lit (.bool false)], args := [d1, d2] }
  | _ => none }
def ComposesWrongFalsely : Prop := composesRow.holds Try.pinned (OpenSpec.ofChange composesWrong)

/-- 'minuetlaw4.ComposeThree': WHATEVER THE INPUT: true; the input reads as it did. -/
def composeThreeSpec : ChangeSpec := { name := "composeThree", fn := fun _ => fun
  | [d1, d2, d3, d4] => { results := [.lit (.bool true)], args := [d1, d2, d3, d4] }
  | _ => none }
def composeThreeRow : OpenClaim := { program := "ytldaokclpkcmmaa", sum := "6ccdbfd940e48176cce301cdc86dcc86f98b2d285db3f3e815364567c329bc00", func := "minuet/minuetlaw4.ComposeThree", spec := "composeThree", recurses := true, apart := false }
def ComposeThreeSaid : Prop := composeThreeRow.holds Try.pinned (OpenSpec.ofChange composeThreeSpec)

/-- ITS FALSE NEIGHBOUR: 'it returns false'. Refute it at one input. -/
def composeThreeWrong : ChangeSpec := { name := "composeThree", fn := fun _ => fun
  | [d1, d2, d3, d4] => { results := [.lit (.bool false)], args := [d1, d2, d3, d4] }
  | _ => none }
def ComposeThreeWrongFalsely : Prop := composeThreeRow.holds Try.pinned (OpenSpec.ofChange composeThreeWrong)

/-- 'minuetlaw4.ComposeNothing': WHATEVER THE INPUT: true; the input reads as it did. -/
def composeNothingSpec : ChangeSpec := { name := "composeNothing", fn := fun _ => fun
  | [d] => { results := [.lit (.bool true)], args := [d] }
  | _ => none }
def composeNothingRow : OpenClaim := { program := "ytldaokclpkcmmaa", sum := "6ccdbfd940e48176cce301cdc86dcc86f98b2d285db3f3e815364567c329bc00", func := "minuet/minuetlaw4.ComposeNothing", spec := "composeNothing", recurses := true, apart := false }
def ComposeNothingSaid : Prop := composeNothingRow.holds Try.pinned (OpenSpec.ofChange composeNothingSpec)

/-- ITS FALSE NEIGHBOUR: 'it returns false'. Refute it at one input. -/
def composeNothingWrong : ChangeSpec := { name := "composeNothing", fn := fun _ => fun
  | [d] => { results := [.lit (.bool false)], args := [d] }
  | _ => none }
def ComposeNothingWrongFalsely : Prop := composeNothingRow.holds Try.pinned (OpenSpec.ofChange composeNothingWrong)

/-- 'minuetlaw4.ComposeDoes': WHATEVER THE INPUT: true; the input reads as it did. -/
def composeDoesSpec : ChangeSpec := { name := "composeDoes", fn := fun _ => fun
  | [d1, d2, d3] => { results := [.lit (.bool true)], args := [d1, d2, d3] }
  | _ => none }
def composeDoesRow : OpenClaim := { program := "ytldaokclpkcmmaa", sum := "6ccdbfd940e48176cce301cdc86dcc86f98b2d285db3f3e815364567c329bc00", func := "minuet/minuetlaw4.ComposeDoes", spec := "composeDoes", inPlace := ["internal/abi.NoEscape"], recurses := true, apart := false }
def ComposeDoesSaid : Prop := composeDoesRow.holds Try.pinned (OpenSpec.ofChange composeDoesSpec)

/-- ITS FALSE NEIGHBOUR: 'it returns false'. Refute it at one input. -/
def composeDoesWrong : ChangeSpec := { name := "composeDoes", fn := fun _ => fun
  | [d1, d2, d3] => { results := [.lit (.bool false)], args := [d1, d2, d3] }
  | _ => none }
def ComposeDoesWrongFalsely : Prop := composeDoesRow.holds Try.pinned (OpenSpec.ofChange composeDoesWrong)

/-- 'minuetlaw7.InvertComposes': WHATEVER THE INPUT: true; the input reads as it did. -/
def invertComposesSpec : ChangeSpec := { name := "invertComposes", fn := fun _ => fun
  | [d1, d2] => { results := [.lit (.bool true)], args := [d1, d2] }
  | _ => none }
def invertComposesRow : OpenClaim := { program := "ytldaokclpkcmmaa", sum := "6ccdbfd940e48176cce301cdc86dcc86f98b2d285db3f3e815364567c329bc00", func := "minuet/minuetlaw7.InvertComposes", spec := "invertComposes", inPlace := ["internal/abi.NoEscape"], recurses := true, apart := false }
def InvertComposesSaid : Prop := invertComposesRow.holds Try.pinned (OpenSpec.ofChange invertComposesSpec)

/-- ITS FALSE NEIGHBOUR: 'it returns false'. Refute it at one input. -/
def invertComposesWrong : ChangeSpec := { name := "invertComposes", fn := fun _ => fun
  | [d1, d2] => { results := [.lit (.bool false)], args := [d1, d2] }
  | _ => none }
def InvertComposesWrongFalsely : Prop := invertComposesRow.holds Try.pinned (OpenSpec.ofChange invertComposesWrong)

/-- 'minuetlaw8.EditTurned': WHATEVER THE INPUT: true; the input reads as it did. -/
def editTurnedSpec : ChangeSpec := { name := "editTurned", fn := fun _ => fun
  | [d1, d2] => { results := [.lit (.bool true)], args := [d1, d2] }
  | _ => none }
def editTurnedRow : OpenClaim := { program := "ytldaokclpkcmmaa", sum := "6ccdbfd940e48176cce301cdc86dcc86f98b2d285db3f3e815364567c329bc00", func := "minuet/minuetlaw8.EditTurned", spec := "editTurned", unfollowed := true, recurses := true, apart := false }
def EditTurnedSaid : Prop := editTurnedRow.holds Try.pinned (OpenSpec.ofChange editTurnedSpec)

/-- ITS FALSE NEIGHBOUR: 'it returns false'. Refute it at one input. -/
def editTurnedWrong : ChangeSpec := { name := "editTurned", fn := fun _ => fun
  | [d1, d2] => { results := [.lit (.bool false)], args := [d1, d2] }
  | _ => none }
def EditTurnedWrongFalsely : Prop := editTurnedRow.holds Try.pinned (OpenSpec.ofChange editTurnedWrong)

/-- 'minuetlaw8.EditDoes': WHATEVER THE INPUT: true; the input reads as it did. -/
def editDoesSpec : ChangeSpec := { name := "editDoes", fn := fun _ => fun
  | [d1, d2, d3, d4] => { results := [.lit (.bool true)], args := [d1, d2, d3, d4] }
  | _ => none }
def editDoesRow : OpenClaim := { program := "ytldaokclpkcmmaa", sum := "6ccdbfd940e48176cce301cdc86dcc86f98b2d285db3f3e815364567c329bc00", func := "minuet/minuetlaw8.EditDoes", spec := "editDoes", inPlace := ["internal/abi.NoEscape"], unfollowed := true, recurses := true, apart := false }
def EditDoesSaid : Prop := editDoesRow.holds Try.pinned (OpenSpec.ofChange editDoesSpec)

/-- ITS FALSE NEIGHBOUR: 'it returns false'. Refute it at one input. -/
def editDoesWrong : ChangeSpec := { name := "editDoes", fn := fun _ => fun
  | [d1, d2, d3, d4] => { results := [.lit (.bool false)], args := [d1, d2, d3, d4] }
  | _ => none }
def EditDoesWrongFalsely : Prop := editDoesRow.holds Try.pinned (OpenSpec.ofChange editDoesWrong)

/- THE SECOND FORM. 'bulk': how many values and letters a reading holds, each counted each time it is reached (what is shared counts as often as it is met; a slice's spare places count too). A statement '..UptoSaid' is the law's where the arguments, and the package variables that the reading takes, are together of bulk at most 1048576: NARROWER than '..Said'. Prove '..Said' where nothing that the law and all that it calls make is longer than what came in: it says more and counts as full. Else prove '..UptoSaid'. A law counts once. -/
mutual
def uptoBulk {H : Type} : DataW H → Nat
  | .lit (.string bytes) => bytes.length + 1
  | .lit _ => 1
  | .nil => 1
  | .ptr d => uptoBulk d + 1
  | .slice elems spare => uptoBulkAll elems + uptoBulkAll spare + 1
  | .agg parts => uptoBulkAll parts + 1
  | .iface _ d => uptoBulk d + 1
  | .map entries => uptoBulkEntries entries + 1
  | .held _ => 1
def uptoBulkAll {H : Type} : List (DataW H) → Nat
  | [] => 0
  | d :: r => uptoBulk d + uptoBulkAll r
def uptoBulkEntries {H : Type} : List (Lit × DataW H) → Nat
  | [] => 0
  | x :: r => uptoBulkEntry x + uptoBulkEntries r
def uptoBulkEntry {H : Type} : Lit × DataW H → Nat
  | (.string bytes, d) => bytes.length + uptoBulk d + 1
  | (_, d) => uptoBulk d + 1
 end
def uptoSmall : (H : Type) → List (DataW H) → Bool := fun _ ds => decide (uptoBulkAll ds ≤ 1048576)
def OpenSpec.upto (s : _root_.Go.ChangeSpec) : _root_.Go.OpenSpec := { _root_.Go.OpenSpec.ofChange s with cond := some uptoSmall }

/-- 'minuetlaw2.CompsNormal', WHERE WHAT IT READS IS OF BULK AT MOST 1048576: true; the input reads as it did. -/
def compsNormalUptoRow : OpenClaim := { program := "ytldaokclpkcmmaa", sum := "6ccdbfd940e48176cce301cdc86dcc86f98b2d285db3f3e815364567c329bc00", func := "minuet/minuetlaw2.CompsNormal", spec := "compsNormal", recurses := true, apart := false, narrowed := true }
def CompsNormalUptoSaid : Prop := compsNormalUptoRow.holds Try.pinned (OpenSpec.upto compsNormalSpec)

/-- 'minuetlaw6.CursorSigns', WHERE WHAT IT READS IS OF BULK AT MOST 1048576: true; the input reads as it did. -/
def cursorSignsUptoRow : OpenClaim := { program := "ytldaokclpkcmmaa", sum := "6ccdbfd940e48176cce301cdc86dcc86f98b2d285db3f3e815364567c329bc00", func := "minuet/minuetlaw6.CursorSigns", spec := "cursorSigns", recurses := true, apart := false, narrowed := true }
def CursorSignsUptoSaid : Prop := cursorSignsUptoRow.holds Try.pinned (OpenSpec.upto cursorSignsSpec)

/-- 'minuetlaw3.ApplyKeeps', WHERE WHAT IT READS IS OF BULK AT MOST 1048576: true; the input reads as it did. -/
def applyKeepsUptoRow : OpenClaim := { program := "ytldaokclpkcmmaa", sum := "6ccdbfd940e48176cce301cdc86dcc86f98b2d285db3f3e815364567c329bc00", func := "minuet/minuetlaw3.ApplyKeeps", spec := "applyKeeps", inPlace := ["internal/abi.NoEscape"], apart := false, narrowed := true }
def ApplyKeepsUptoSaid : Prop := applyKeepsUptoRow.holds Try.pinned (OpenSpec.upto applyKeepsSpec)

/-- 'minuetlaw4.Composes', WHERE WHAT IT READS IS OF BULK AT MOST 1048576: true; the input reads as it did. -/
def composesUptoRow : OpenClaim := { program := "ytldaokclpkcmmaa", sum := "6ccdbfd940e48176cce301cdc86dcc86f98b2d285db3f3e815364567c329bc00", func := "minuet/minuetlaw4.Composes", spec := "composes", recurses := true, apart := false, narrowed := true }
def ComposesUptoSaid : Prop := composesUptoRow.holds Try.pinned (OpenSpec.upto composesSpec)

/-- 'minuetlaw4.ComposeThree', WHERE WHAT IT READS IS OF BULK AT MOST 1048576: true; the input reads as it did. -/
def composeThreeUptoRow : OpenClaim := { program := "ytldaokclpkcmmaa", sum := "6ccdbfd940e48176cce301cdc86dcc86f98b2d285db3f3e815364567c329bc00", func := "minuet/minuetlaw4.ComposeThree", spec := "composeThree", recurses := true, apart := false, narrowed := true }
def ComposeThreeUptoSaid : Prop := composeThreeUptoRow.holds Try.pinned (OpenSpec.upto composeThreeSpec)

/-- 'minuetlaw4.ComposeNothing', WHERE WHAT IT READS IS OF BULK AT MOST 1048576: true; the input reads as it did. -/
def composeNothingUptoRow : OpenClaim := { program := "ytldaokclpkcmmaa", sum := "6ccdbfd940e48176cce301cdc86dcc86f98b2d285db3f3e815364567c329bc00", func := "minuet/minuetlaw4.ComposeNothing", spec := "composeNothing", recurses := true, apart := false, narrowed := true }
def ComposeNothingUptoSaid : Prop := composeNothingUptoRow.holds Try.pinned (OpenSpec.upto composeNothingSpec)

/-- 'minuetlaw4.ComposeDoes', WHERE WHAT IT READS IS OF BULK AT MOST 1048576: true; the input reads as it did. -/
def composeDoesUptoRow : OpenClaim := { program := "ytldaokclpkcmmaa", sum := "6ccdbfd940e48176cce301cdc86dcc86f98b2d285db3f3e815364567c329bc00", func := "minuet/minuetlaw4.ComposeDoes", spec := "composeDoes", inPlace := ["internal/abi.NoEscape"], recurses := true, apart := false, narrowed := true }
def ComposeDoesUptoSaid : Prop := composeDoesUptoRow.holds Try.pinned (OpenSpec.upto composeDoesSpec)

/-- 'minuetlaw7.InvertComposes', WHERE WHAT IT READS IS OF BULK AT MOST 1048576: true; the input reads as it did. -/
def invertComposesUptoRow : OpenClaim := { program := "ytldaokclpkcmmaa", sum := "6ccdbfd940e48176cce301cdc86dcc86f98b2d285db3f3e815364567c329bc00", func := "minuet/minuetlaw7.InvertComposes", spec := "invertComposes", inPlace := ["internal/abi.NoEscape"], recurses := true, apart := false, narrowed := true }
def InvertComposesUptoSaid : Prop := invertComposesUptoRow.holds Try.pinned (OpenSpec.upto invertComposesSpec)

/-- 'minuetlaw8.EditTurned', WHERE WHAT IT READS IS OF BULK AT MOST 1048576: true; the input reads as it did. -/
def editTurnedUptoRow : OpenClaim := { program := "ytldaokclpkcmmaa", sum := "6ccdbfd940e48176cce301cdc86dcc86f98b2d285db3f3e815364567c329bc00", func := "minuet/minuetlaw8.EditTurned", spec := "editTurned", unfollowed := true, recurses := true, apart := false, narrowed := true }
def EditTurnedUptoSaid : Prop := editTurnedUptoRow.holds Try.pinned (OpenSpec.upto editTurnedSpec)

/-- 'minuetlaw8.EditDoes', WHERE WHAT IT READS IS OF BULK AT MOST 1048576: true; the input reads as it did. -/
def editDoesUptoRow : OpenClaim := { program := "ytldaokclpkcmmaa", sum := "6ccdbfd940e48176cce301cdc86dcc86f98b2d285db3f3e815364567c329bc00", func := "minuet/minuetlaw8.EditDoes", spec := "editDoes", inPlace := ["internal/abi.NoEscape"], unfollowed := true, recurses := true, apart := false, narrowed := true }
def EditDoesUptoSaid : Prop := editDoesUptoRow.holds Try.pinned (OpenSpec.upto editDoesSpec)

end Rows
end Go.Proofs.Ytldaokclpkcmmaa
