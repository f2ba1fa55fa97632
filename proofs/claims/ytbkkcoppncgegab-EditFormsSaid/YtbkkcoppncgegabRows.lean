/-
  No cell of these rows narrows 'for every input' (looked for: loops, veiled, ifaces, maps, wideKeys, modest, calm, conditions, laid).
  DERIVED. THE GIVEN ROWS OF THIS SEAT. 12 by the template 'for every input the law returns true; each argument reads behind the call as it read before'; 0 by the template 'total and deterministic' (their statements: YtbkkcoppncgegabTotals.lean).
  GIVEN WITH THE SEED: the statements are not yours to turn. If you find one false, say at which input.
  Laid BY PROGRAM, IN A SANDBOX (cutbox-rows.mjs): the forced cells as the released guide's own fill.sh prints them over the translation 2b7b3e2e8be92ec0… (all of the seat's roots in one cut). By AI agents, Wed Nov 11 2026. No macro, syntax, notation, axiom, sorry.
-/
import Derived.Test.YtbkkcoppncgegabChecked
import GoSem.Claim
import GoSem.ClaimJoined
import GoSem.ClaimMapViews
import Derived.JoinedTies
import Derived.KernelRfl
namespace Go.Proofs.Ytbkkcoppncgegab
/- THE CELL 'sum', in the pinned program and in every row, IS THE sha256 OF THE DUMP (.gsa) THAT YtbkkcoppncgegabProg.lean LOADS. Nothing in Lean hashes anything: it is a label: what it is worth is what the hold of that sum in a sandbox is worth. -/
noncomputable def Try.pinned : Pinned := { name := "ytbkkcoppncgegab", sum := "2b7b3e2e8be92ec02dcbebbd5ba0e1bce5d829c520b898b986e24d9a8231c83f", checked := Try.checked }
namespace Rows
def none {H : Type} : Left H := { results := [], args := [] }

/-- 'minuetlaw3.ApplyParts': WHATEVER THE INPUT: true; the input reads as it did. -/
def applyPartsSpec : ChangeSpec := { name := "applyParts", fn := fun _ => fun
  | [d1, d2, d3, d4] => { results := [.lit (.bool true)], args := [d1, d2, d3, d4] }
  | _ => none }
def applyPartsRow : OpenClaim := { program := "ytbkkcoppncgegab", sum := "2b7b3e2e8be92ec02dcbebbd5ba0e1bce5d829c520b898b986e24d9a8231c83f", func := "minuet/minuetlaw3.ApplyParts", spec := "applyParts", inPlace := ["internal/abi.NoEscape"], recurses := true, apart := false }
def ApplyPartsSaid : Prop := applyPartsRow.holds Try.pinned (OpenSpec.ofChange applyPartsSpec)

/-- ITS FALSE NEIGHBOUR: 'it returns false'. Refute it at one input. -/
def applyPartsWrong : ChangeSpec := { name := "applyParts", fn := fun _ => fun
  | [d1, d2, d3, d4] => { results := [.lit (.bool false)], args := [d1, d2, d3, d4] }
  | _ => none }
def ApplyPartsWrongFalsely : Prop := applyPartsRow.holds Try.pinned (OpenSpec.ofChange applyPartsWrong)

/-- 'minuetlaw3.ApplyKeeps': WHATEVER THE INPUT: true; the input reads as it did. -/
def applyKeepsSpec : ChangeSpec := { name := "applyKeeps", fn := fun _ => fun
  | [d1, d2] => { results := [.lit (.bool true)], args := [d1, d2] }
  | _ => none }
def applyKeepsRow : OpenClaim := { program := "ytbkkcoppncgegab", sum := "2b7b3e2e8be92ec02dcbebbd5ba0e1bce5d829c520b898b986e24d9a8231c83f", func := "minuet/minuetlaw3.ApplyKeeps", spec := "applyKeeps", inPlace := ["internal/abi.NoEscape"], apart := false }
def ApplyKeepsSaid : Prop := applyKeepsRow.holds Try.pinned (OpenSpec.ofChange applyKeepsSpec)

/-- ITS FALSE NEIGHBOUR: 'it returns false'. Refute it at one input. -/
def applyKeepsWrong : ChangeSpec := { name := "applyKeeps", fn := fun _ => fun
  | [d1, d2] => { results := [.lit (.bool false)], args := [d1, d2] }
  | _ => none }
def ApplyKeepsWrongFalsely : Prop := applyKeepsRow.holds Try.pinned (OpenSpec.ofChange applyKeepsWrong)

/-- 'minuetlaw3.ApplyLengths': WHATEVER THE INPUT: true; the input reads as it did. -/
def applyLengthsSpec : ChangeSpec := { name := "applyLengths", fn := fun _ => fun
  | [d1, d2] => { results := [.lit (.bool true)], args := [d1, d2] }
  | _ => none }
def applyLengthsRow : OpenClaim := { program := "ytbkkcoppncgegab", sum := "2b7b3e2e8be92ec02dcbebbd5ba0e1bce5d829c520b898b986e24d9a8231c83f", func := "minuet/minuetlaw3.ApplyLengths", spec := "applyLengths", inPlace := ["internal/abi.NoEscape"], recurses := true, apart := false }
def ApplyLengthsSaid : Prop := applyLengthsRow.holds Try.pinned (OpenSpec.ofChange applyLengthsSpec)

/-- ITS FALSE NEIGHBOUR: 'it returns false'. Refute it at one input. -/
def applyLengthsWrong : ChangeSpec := { name := "applyLengths", fn := fun _ => fun
  | [d1, d2] => { results := [.lit (.bool false)], args := [d1, d2] }
  | _ => none }
def ApplyLengthsWrongFalsely : Prop := applyLengthsRow.holds Try.pinned (OpenSpec.ofChange applyLengthsWrong)

/-- 'minuetlaw7.Inverts': WHATEVER THE INPUT: true; the input reads as it did. -/
def invertsSpec : ChangeSpec := { name := "inverts", fn := fun _ => fun
  | [d1, d2] => { results := [.lit (.bool true)], args := [d1, d2] }
  | _ => none }
def invertsRow : OpenClaim := { program := "ytbkkcoppncgegab", sum := "2b7b3e2e8be92ec02dcbebbd5ba0e1bce5d829c520b898b986e24d9a8231c83f", func := "minuet/minuetlaw7.Inverts", spec := "inverts", inPlace := ["internal/abi.NoEscape"], recurses := true, apart := false }
def InvertsSaid : Prop := invertsRow.holds Try.pinned (OpenSpec.ofChange invertsSpec)

/-- ITS FALSE NEIGHBOUR: 'it returns false'. Refute it at one input. -/
def invertsWrong : ChangeSpec := { name := "inverts", fn := fun _ => fun
  | [d1, d2] => { results := [.lit (.bool false)], args := [d1, d2] }
  | _ => none }
def InvertsWrongFalsely : Prop := invertsRow.holds Try.pinned (OpenSpec.ofChange invertsWrong)

/-- 'minuetlaw7.InvertBack': WHATEVER THE INPUT: true; the input reads as it did. -/
def invertBackSpec : ChangeSpec := { name := "invertBack", fn := fun _ => fun
  | [d1, d2] => { results := [.lit (.bool true)], args := [d1, d2] }
  | _ => none }
def invertBackRow : OpenClaim := { program := "ytbkkcoppncgegab", sum := "2b7b3e2e8be92ec02dcbebbd5ba0e1bce5d829c520b898b986e24d9a8231c83f", func := "minuet/minuetlaw7.InvertBack", spec := "invertBack", inPlace := ["internal/abi.NoEscape"], recurses := true, apart := false }
def InvertBackSaid : Prop := invertBackRow.holds Try.pinned (OpenSpec.ofChange invertBackSpec)

/-- ITS FALSE NEIGHBOUR: 'it returns false'. Refute it at one input. -/
def invertBackWrong : ChangeSpec := { name := "invertBack", fn := fun _ => fun
  | [d1, d2] => { results := [.lit (.bool false)], args := [d1, d2] }
  | _ => none }
def InvertBackWrongFalsely : Prop := invertBackRow.holds Try.pinned (OpenSpec.ofChange invertBackWrong)

/-- 'minuetlaw7.InvertComposes': WHATEVER THE INPUT: true; the input reads as it did. -/
def invertComposesSpec : ChangeSpec := { name := "invertComposes", fn := fun _ => fun
  | [d1, d2] => { results := [.lit (.bool true)], args := [d1, d2] }
  | _ => none }
def invertComposesRow : OpenClaim := { program := "ytbkkcoppncgegab", sum := "2b7b3e2e8be92ec02dcbebbd5ba0e1bce5d829c520b898b986e24d9a8231c83f", func := "minuet/minuetlaw7.InvertComposes", spec := "invertComposes", inPlace := ["internal/abi.NoEscape"], recurses := true, apart := false }
def InvertComposesSaid : Prop := invertComposesRow.holds Try.pinned (OpenSpec.ofChange invertComposesSpec)

/-- ITS FALSE NEIGHBOUR: 'it returns false'. Refute it at one input. -/
def invertComposesWrong : ChangeSpec := { name := "invertComposes", fn := fun _ => fun
  | [d1, d2] => { results := [.lit (.bool false)], args := [d1, d2] }
  | _ => none }
def InvertComposesWrongFalsely : Prop := invertComposesRow.holds Try.pinned (OpenSpec.ofChange invertComposesWrong)

/-- 'minuetlaw4.Composes': WHATEVER THE INPUT: true; the input reads as it did. -/
def composesSpec : ChangeSpec := { name := "composes", fn := fun _ => fun
  | [d1, d2] => { results := [.lit (.bool true)], args := [d1, d2] }
  | _ => none }
def composesRow : OpenClaim := { program := "ytbkkcoppncgegab", sum := "2b7b3e2e8be92ec02dcbebbd5ba0e1bce5d829c520b898b986e24d9a8231c83f", func := "minuet/minuetlaw4.Composes", spec := "composes", recurses := true, apart := false }
def ComposesSaid : Prop := composesRow.holds Try.pinned (OpenSpec.ofChange composesSpec)

/-- ITS FALSE NEIGHBOUR: 'it returns false'. Refute it at one input. -/
def composesWrong : ChangeSpec := { name := "composes", fn := fun _ => fun
  | [d1, d2] => { results := [.lit (.bool false)], args := [d1, d2] }
  | _ => none }
def ComposesWrongFalsely : Prop := composesRow.holds Try.pinned (OpenSpec.ofChange composesWrong)

/-- 'minuetlaw4.ComposeThree': WHATEVER THE INPUT: true; the input reads as it did. -/
def composeThreeSpec : ChangeSpec := { name := "composeThree", fn := fun _ => fun
  | [d1, d2, d3, d4] => { results := [.lit (.bool true)], args := [d1, d2, d3, d4] }
  | _ => none }
def composeThreeRow : OpenClaim := { program := "ytbkkcoppncgegab", sum := "2b7b3e2e8be92ec02dcbebbd5ba0e1bce5d829c520b898b986e24d9a8231c83f", func := "minuet/minuetlaw4.ComposeThree", spec := "composeThree", recurses := true, apart := false }
def ComposeThreeSaid : Prop := composeThreeRow.holds Try.pinned (OpenSpec.ofChange composeThreeSpec)

/-- ITS FALSE NEIGHBOUR: 'it returns false'. Refute it at one input. -/
def composeThreeWrong : ChangeSpec := { name := "composeThree", fn := fun _ => fun
  | [d1, d2, d3, d4] => { results := [.lit (.bool false)], args := [d1, d2, d3, d4] }
  | _ => none }
def ComposeThreeWrongFalsely : Prop := composeThreeRow.holds Try.pinned (OpenSpec.ofChange composeThreeWrong)

/-- 'minuetlaw4.ComposeNothing': WHATEVER THE INPUT: true; the input reads as it did. -/
def composeNothingSpec : ChangeSpec := { name := "composeNothing", fn := fun _ => fun
  | [d] => { results := [.lit (.bool true)], args := [d] }
  | _ => none }
def composeNothingRow : OpenClaim := { program := "ytbkkcoppncgegab", sum := "2b7b3e2e8be92ec02dcbebbd5ba0e1bce5d829c520b898b986e24d9a8231c83f", func := "minuet/minuetlaw4.ComposeNothing", spec := "composeNothing", recurses := true, apart := false }
def ComposeNothingSaid : Prop := composeNothingRow.holds Try.pinned (OpenSpec.ofChange composeNothingSpec)

/-- ITS FALSE NEIGHBOUR: 'it returns false'. Refute it at one input. -/
def composeNothingWrong : ChangeSpec := { name := "composeNothing", fn := fun _ => fun
  | [d] => { results := [.lit (.bool false)], args := [d] }
  | _ => none }
def ComposeNothingWrongFalsely : Prop := composeNothingRow.holds Try.pinned (OpenSpec.ofChange composeNothingWrong)

/-- 'minuetlaw4.ComposeDoes': WHATEVER THE INPUT: true; the input reads as it did. -/
def composeDoesSpec : ChangeSpec := { name := "composeDoes", fn := fun _ => fun
  | [d1, d2, d3] => { results := [.lit (.bool true)], args := [d1, d2, d3] }
  | _ => none }
def composeDoesRow : OpenClaim := { program := "ytbkkcoppncgegab", sum := "2b7b3e2e8be92ec02dcbebbd5ba0e1bce5d829c520b898b986e24d9a8231c83f", func := "minuet/minuetlaw4.ComposeDoes", spec := "composeDoes", inPlace := ["internal/abi.NoEscape"], recurses := true, apart := false }
def ComposeDoesSaid : Prop := composeDoesRow.holds Try.pinned (OpenSpec.ofChange composeDoesSpec)

/-- ITS FALSE NEIGHBOUR: 'it returns false'. Refute it at one input. -/
def composeDoesWrong : ChangeSpec := { name := "composeDoes", fn := fun _ => fun
  | [d1, d2, d3] => { results := [.lit (.bool false)], args := [d1, d2, d3] }
  | _ => none }
def ComposeDoesWrongFalsely : Prop := composeDoesRow.holds Try.pinned (OpenSpec.ofChange composeDoesWrong)

/-- 'minuetlaw8.Edits': WHATEVER THE INPUT: true; the input reads as it did. -/
def editsSpec : ChangeSpec := { name := "edits", fn := fun _ => fun
  | [d1, d2, d3, d4] => { results := [.lit (.bool true)], args := [d1, d2, d3, d4] }
  | _ => none }
def editsRow : OpenClaim := { program := "ytbkkcoppncgegab", sum := "2b7b3e2e8be92ec02dcbebbd5ba0e1bce5d829c520b898b986e24d9a8231c83f", func := "minuet/minuetlaw8.Edits", spec := "edits", unfollowed := true, recurses := true, apart := false }
def EditsSaid : Prop := editsRow.holds Try.pinned (OpenSpec.ofChange editsSpec)

/-- ITS FALSE NEIGHBOUR: 'it returns false'. Refute it at one input. -/
def editsWrong : ChangeSpec := { name := "edits", fn := fun _ => fun
  | [d1, d2, d3, d4] => { results := [.lit (.bool false)], args := [d1, d2, d3, d4] }
  | _ => none }
def EditsWrongFalsely : Prop := editsRow.holds Try.pinned (OpenSpec.ofChange editsWrong)

/-- 'minuetlaw8.EditForms': WHATEVER THE INPUT: true; the input reads as it did. -/
def editFormsSpec : ChangeSpec := { name := "editForms", fn := fun _ => fun
  | [d1, d2] => { results := [.lit (.bool true)], args := [d1, d2] }
  | _ => none }
def editFormsRow : OpenClaim := { program := "ytbkkcoppncgegab", sum := "2b7b3e2e8be92ec02dcbebbd5ba0e1bce5d829c520b898b986e24d9a8231c83f", func := "minuet/minuetlaw8.EditForms", spec := "editForms", unfollowed := true, recurses := true, apart := false }
def EditFormsSaid : Prop := editFormsRow.holds Try.pinned (OpenSpec.ofChange editFormsSpec)

/-- ITS FALSE NEIGHBOUR: 'it returns false'. Refute it at one input. -/
def editFormsWrong : ChangeSpec := { name := "editForms", fn := fun _ => fun
  | [d1, d2] => { results := [.lit (.bool false)], args := [d1, d2] }
  | _ => none }
def EditFormsWrongFalsely : Prop := editFormsRow.holds Try.pinned (OpenSpec.ofChange editFormsWrong)

/- THE SECOND FORM. 'bulk': how many values and letters a reading holds, each counted each time it is reached (what is shared counts as often as it is met; a slice's spare places count too). A statement '..UptoSaid' is the law's where the arguments, and the package variables that the reading takes, are together of bulk at most 1048576: NARROWER than '..Said'. Prove '..Said' where nothing that the law and all that it calls make is longer than what came in: it says more and counts as full. Else prove '..UptoSaid'. A law counts once. -/
mutual
def uptoBulk {H : Type} : DataW H → Nat
  | .lit (.string bytes) => bytes.length + 1
  | .lit _ => 1
  | .nil => 1
  | .ptr d => uptoBulk d + 1
  | .slice elems spare => uptoBulkAll elems + uptoBulkAll spare + 1
  | .agg parts => uptoBulkAll parts + 1
  | .iface _ d => uptoBulk d + 1
  | .map entries => uptoBulkEntries entries + 1
  | .held _ => 1
def uptoBulkAll {H : Type} : List (DataW H) → Nat
  | [] => 0
  | d :: r => uptoBulk d + uptoBulkAll r
def uptoBulkEntries {H : Type} : List (Lit × DataW H) → Nat
  | [] => 0
  | x :: r => uptoBulkEntry x + uptoBulkEntries r
def uptoBulkEntry {H : Type} : Lit × DataW H → Nat
  | (.string bytes, d) => bytes.length + uptoBulk d + 1
  | (_, d) => uptoBulk d + 1
 end
def uptoSmall : (H : Type) → List (DataW H) → Bool := fun _ ds => decide (uptoBulkAll ds ≤ 1048576)
def OpenSpec.upto (s : _root_.Go.ChangeSpec) : _root_.Go.OpenSpec := { _root_.Go.OpenSpec.ofChange s with cond := some uptoSmall }

/-- 'minuetlaw3.ApplyParts', WHERE WHAT IT READS IS OF BULK AT MOST 1048576: true; the input reads as it did. -/
def applyPartsUptoRow : OpenClaim := { program := "ytbkkcoppncgegab", sum := "2b7b3e2e8be92ec02dcbebbd5ba0e1bce5d829c520b898b986e24d9a8231c83f", func := "minuet/minuetlaw3.ApplyParts", spec := "applyParts", inPlace := ["internal/abi.NoEscape"], recurses := true, apart := false, narrowed := true }
def ApplyPartsUptoSaid : Prop := applyPartsUptoRow.holds Try.pinned (OpenSpec.upto applyPartsSpec)

/-- 'minuetlaw3.ApplyKeeps', WHERE WHAT IT READS IS OF BULK AT MOST 1048576: true; the input reads as it did. -/
def applyKeepsUptoRow : OpenClaim := { program := "ytbkkcoppncgegab", sum := "2b7b3e2e8be92ec02dcbebbd5ba0e1bce5d829c520b898b986e24d9a8231c83f", func := "minuet/minuetlaw3.ApplyKeeps", spec := "applyKeeps", inPlace := ["internal/abi.NoEscape"], apart := false, narrowed := true }
def ApplyKeepsUptoSaid : Prop := applyKeepsUptoRow.holds Try.pinned (OpenSpec.upto applyKeepsSpec)

/-- 'minuetlaw3.ApplyLengths', WHERE WHAT IT READS IS OF BULK AT MOST 1048576: true; the input reads as it did. -/
def applyLengthsUptoRow : OpenClaim := { program := "ytbkkcoppncgegab", sum := "2b7b3e2e8be92ec02dcbebbd5ba0e1bce5d829c520b898b986e24d9a8231c83f", func := "minuet/minuetlaw3.ApplyLengths", spec := "applyLengths", inPlace := ["internal/abi.NoEscape"], recurses := true, apart := false, narrowed := true }
def ApplyLengthsUptoSaid : Prop := applyLengthsUptoRow.holds Try.pinned (OpenSpec.upto applyLengthsSpec)

/-- 'minuetlaw7.Inverts', WHERE WHAT IT READS IS OF BULK AT MOST 1048576: true; the input reads as it did. -/
def invertsUptoRow : OpenClaim := { program := "ytbkkcoppncgegab", sum := "2b7b3e2e8be92ec02dcbebbd5ba0e1bce5d829c520b898b986e24d9a8231c83f", func := "minuet/minuetlaw7.Inverts", spec := "inverts", inPlace := ["internal/abi.NoEscape"], recurses := true, apart := false, narrowed := true }
def InvertsUptoSaid : Prop := invertsUptoRow.holds Try.pinned (OpenSpec.upto invertsSpec)

/-- 'minuetlaw7.InvertBack', WHERE WHAT IT READS IS OF BULK AT MOST 1048576: true; the input reads as it did. -/
def invertBackUptoRow : OpenClaim := { program := "ytbkkcoppncgegab", sum := "2b7b3e2e8be92ec02dcbebbd5ba0e1bce5d829c520b898b986e24d9a8231c83f", func := "minuet/minuetlaw7.InvertBack", spec := "invertBack", inPlace := ["internal/abi.NoEscape"], recurses := true, apart := false, narrowed := true }
def InvertBackUptoSaid : Prop := invertBackUptoRow.holds Try.pinned (OpenSpec.upto invertBackSpec)

/-- 'minuetlaw7.InvertComposes', WHERE WHAT IT READS IS OF BULK AT MOST 1048576: true; the input reads as it did. -/
def invertComposesUptoRow : OpenClaim := { program := "ytbkkcoppncgegab", sum := "2b7b3e2e8be92ec02dcbebbd5ba0e1bce5d829c520b898b986e24d9a8231c83f", func := "minuet/minuetlaw7.InvertComposes", spec := "invertComposes", inPlace := ["internal/abi.NoEscape"], recurses := true, apart := false, narrowed := true }
def InvertComposesUptoSaid : Prop := invertComposesUptoRow.holds Try.pinned (OpenSpec.upto invertComposesSpec)

/-- 'minuetlaw4.Composes', WHERE WHAT IT READS IS OF BULK AT MOST 1048576: true; the input reads as it did. -/
def composesUptoRow : OpenClaim := { program := "ytbkkcoppncgegab", sum := "2b7b3e2e8be92ec02dcbebbd5ba0e1bce5d829c520b898b986e24d9a8231c83f", func := "minuet/minuetlaw4.Composes", spec := "composes", recurses := true, apart := false, narrowed := true }
def ComposesUptoSaid : Prop := composesUptoRow.holds Try.pinned (OpenSpec.upto composesSpec)

/-- 'minuetlaw4.ComposeThree', WHERE WHAT IT READS IS OF BULK AT MOST 1048576: true; the input reads as it did. -/
def composeThreeUptoRow : OpenClaim := { program := "ytbkkcoppncgegab", sum := "2b7b3e2e8be92ec02dcbebbd5ba0e1bce5d829c520b898b986e24d9a8231c83f", func := "minuet/minuetlaw4.ComposeThree", spec := "composeThree", recurses := true, apart := false, narrowed := true }
def ComposeThreeUptoSaid : Prop := composeThreeUptoRow.holds Try.pinned (OpenSpec.upto composeThreeSpec)

/-- 'minuetlaw4.ComposeNothing', WHERE WHAT IT READS IS OF BULK AT MOST 1048576: true; the input reads as it did. -/
def composeNothingUptoRow : OpenClaim := { program := "ytbkkcoppncgegab", sum := "2b7b3e2e8be92ec02dcbebbd5ba0e1bce5d829c520b898b986e24d9a8231c83f", func := "minuet/minuetlaw4.ComposeNothing", spec := "composeNothing", recurses := true, apart := false, narrowed := true }
def ComposeNothingUptoSaid : Prop := composeNothingUptoRow.holds Try.pinned (OpenSpec.upto composeNothingSpec)

/-- 'minuetlaw4.ComposeDoes', WHERE WHAT IT READS IS OF BULK AT MOST 1048576: true; the input reads as it did. -/
def composeDoesUptoRow : OpenClaim := { program := "ytbkkcoppncgegab", sum := "2b7b3e2e8be92ec02dcbebbd5ba0e1bce5d829c520b898b986e24d9a8231c83f", func := "minuet/minuetlaw4.ComposeDoes", spec := "composeDoes", inPlace := ["internal/abi.NoEscape"], recurses := true, apart := false, narrowed := true }
def ComposeDoesUptoSaid : Prop := composeDoesUptoRow.holds Try.pinned (OpenSpec.upto composeDoesSpec)

/-- 'minuetlaw8.Edits', WHERE WHAT IT READS IS OF BULK AT MOST 1048576: true; the input reads as it did. -/
def editsUptoRow : OpenClaim := { program := "ytbkkcoppncgegab", sum := "2b7b3e2e8be92ec02dcbebbd5ba0e1bce5d829c520b898b986e24d9a8231c83f", func := "minuet/minuetlaw8.Edits", spec := "edits", unfollowed := true, recurses := true, apart := false, narrowed := true }
def EditsUptoSaid : Prop := editsUptoRow.holds Try.pinned (OpenSpec.upto editsSpec)

/-- 'minuetlaw8.EditForms', WHERE WHAT IT READS IS OF BULK AT MOST 1048576: true; the input reads as it did. -/
def editFormsUptoRow : OpenClaim := { program := "ytbkkcoppncgegab", sum := "2b7b3e2e8be92ec02dcbebbd5ba0e1bce5d829c520b898b986e24d9a8231c83f", func := "minuet/minuetlaw8.EditForms", spec := "editForms", unfollowed := true, recurses := true, apart := false, narrowed := true }
def EditFormsUptoSaid : Prop := editFormsUptoRow.holds Try.pinned (OpenSpec.upto editFormsSpec)

end Rows
end Go.Proofs.Ytbkkcoppncgegab
