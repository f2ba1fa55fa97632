/-
  No cell of these rows narrows 'for every input' (looked for: loops, veiled, ifaces, maps, wideKeys, modest, calm, conditions, laid).
  DERIVED. THE GIVEN ROWS OF THIS SEAT. 10 by the template 'for every input the law returns true; each argument reads behind the call as it read before'; 0 by the template 'total and deterministic' (their statements: YtldaokclpkcmmabTotals.lean).
  GIVEN WITH THE SEED: the statements are not yours to turn. If you find one false, say at which input.
  Laid BY PROGRAM, IN A SANDBOX (cutbox-rows.mjs): the forced cells as the released guide's own fill.sh prints them over the translation ca6f5c1adca8c2b4… (all of the seat's roots in one cut). By AI agents, Wed Nov 11 2026. No macro, syntax, notation, axiom, sorry.
-/
import Derived.Test.YtldaokclpkcmmabChecked
import GoSem.Claim
import GoSem.ClaimJoined
import GoSem.ClaimMapViews
import Derived.JoinedTies
import Derived.KernelRfl
namespace Go.Proofs.Ytldaokclpkcmmab
/- THE CELL 'sum', in the pinned program and in every row, IS THE sha256 OF THE DUMP (.gsa) THAT YtldaokclpkcmmabProg.lean LOADS. Nothing in Lean hashes anything: it is a label: what it is worth is what the hold of that sum in a sandbox is worth. -/
noncomputable def Try.pinned : Pinned := { name := "ytldaokclpkcmmab", sum := "ca6f5c1adca8c2b48f849173a1db6989da2397ff783e32fbaa6f06da755400f0", checked := Try.checked }
namespace Rows
def none {H : Type} : Left H := { results := [], args := [] }

/-- 'minuetlaw5.Transforms': WHATEVER THE INPUT: true; the input reads as it did. -/
def transformsSpec : ChangeSpec := { name := "transforms", fn := fun _ => fun
  | [d1, d2, d3] => { results := [.lit (.bool true)], args := [d1, d2, d3] }
  | _ => none }
def transformsRow : OpenClaim := { program := "ytldaokclpkcmmab", sum := "ca6f5c1adca8c2b48f849173a1db6989da2397ff783e32fbaa6f06da755400f0", func := "minuet/minuetlaw5.Transforms", spec := "transforms", recurses := true, apart := false }
def TransformsSaid : Prop := transformsRow.holds Try.pinned (OpenSpec.ofChange transformsSpec)

/-- ITS FALSE NEIGHBOUR: 'it returns false'. Refute it at one input. -/
def transformsWrong : ChangeSpec := { name := "transforms", fn := fun _ => fun
  | [d1, d2, d3] => { results := [.lit (.bool false)], args := [d1, d2, d3] }
  | _ => none }
def TransformsWrongFalsely : Prop := transformsRow.holds Try.pinned (OpenSpec.ofChange transformsWrong)

/-- 'minuetlaw5.TransformSides': WHATEVER THE INPUT: true; the input reads as it did. -/
def transformSidesSpec : ChangeSpec := { name := "transformSides", fn := fun _ => fun
  | [d1, d2, d3] => { results := [.lit (.bool true)], args := [d1, d2, d3] }
  | _ => none }
def transformSidesRow : OpenClaim := { program := "ytldaokclpkcmmab", sum := "ca6f5c1adca8c2b48f849173a1db6989da2397ff783e32fbaa6f06da755400f0", func := "minuet/minuetlaw5.TransformSides", spec := "transformSides", recurses := true, apart := false }
def TransformSidesSaid : Prop := transformSidesRow.holds Try.pinned (OpenSpec.ofChange transformSidesSpec)

/-- ITS FALSE NEIGHBOUR: 'it returns false'. Refute it at one input. -/
def transformSidesWrong : ChangeSpec := { name := "transformSides", fn := fun _ => fun
  | [d1, d2, d3] => { results := [.lit (.bool false)], args := [d1, d2, d3] }
  | _ => none }
def TransformSidesWrongFalsely : Prop := transformSidesRow.holds Try.pinned (OpenSpec.ofChange transformSidesWrong)

/-- 'minuetlaw5.TransformNothing': WHATEVER THE INPUT: true; the input reads as it did. -/
def transformNothingSpec : ChangeSpec := { name := "transformNothing", fn := fun _ => fun
  | [d1, d2] => { results := [.lit (.bool true)], args := [d1, d2] }
  | _ => none }
def transformNothingRow : OpenClaim := { program := "ytldaokclpkcmmab", sum := "ca6f5c1adca8c2b48f849173a1db6989da2397ff783e32fbaa6f06da755400f0", func := "minuet/minuetlaw5.TransformNothing", spec := "transformNothing", recurses := true, apart := false }
def TransformNothingSaid : Prop := transformNothingRow.holds Try.pinned (OpenSpec.ofChange transformNothingSpec)

/-- ITS FALSE NEIGHBOUR: 'it returns false'. Refute it at one input. -/
def transformNothingWrong : ChangeSpec := { name := "transformNothing", fn := fun _ => fun
  | [d1, d2] => { results := [.lit (.bool false)], args := [d1, d2] }
  | _ => none }
def TransformNothingWrongFalsely : Prop := transformNothingRow.holds Try.pinned (OpenSpec.ofChange transformNothingWrong)

/-- 'minuetlaw5.TransformPuts': WHATEVER THE INPUT: true; the input reads as it did. -/
def transformPutsSpec : ChangeSpec := { name := "transformPuts", fn := fun _ => fun
  | [d1, d2, d3, d4] => { results := [.lit (.bool true)], args := [d1, d2, d3, d4] }
  | _ => none }
def transformPutsRow : OpenClaim := { program := "ytldaokclpkcmmab", sum := "ca6f5c1adca8c2b48f849173a1db6989da2397ff783e32fbaa6f06da755400f0", func := "minuet/minuetlaw5.TransformPuts", spec := "transformPuts", recurses := true, apart := false }
def TransformPutsSaid : Prop := transformPutsRow.holds Try.pinned (OpenSpec.ofChange transformPutsSpec)

/-- ITS FALSE NEIGHBOUR: 'it returns false'. Refute it at one input. -/
def transformPutsWrong : ChangeSpec := { name := "transformPuts", fn := fun _ => fun
  | [d1, d2, d3, d4] => { results := [.lit (.bool false)], args := [d1, d2, d3, d4] }
  | _ => none }
def TransformPutsWrongFalsely : Prop := transformPutsRow.holds Try.pinned (OpenSpec.ofChange transformPutsWrong)

/-- 'minuetlaw5.TransformCuts': WHATEVER THE INPUT: true; the input reads as it did. -/
def transformCutsSpec : ChangeSpec := { name := "transformCuts", fn := fun _ => fun
  | [d1, d2, d3, d4, d5, d6] => { results := [.lit (.bool true)], args := [d1, d2, d3, d4, d5, d6] }
  | _ => none }
def transformCutsRow : OpenClaim := { program := "ytldaokclpkcmmab", sum := "ca6f5c1adca8c2b48f849173a1db6989da2397ff783e32fbaa6f06da755400f0", func := "minuet/minuetlaw5.TransformCuts", spec := "transformCuts", recurses := true, apart := false }
def TransformCutsSaid : Prop := transformCutsRow.holds Try.pinned (OpenSpec.ofChange transformCutsSpec)

/-- ITS FALSE NEIGHBOUR: 'it returns false'. Refute it at one input. -/
def transformCutsWrong : ChangeSpec := { name := "transformCuts", fn := fun _ => fun
  | [d1, d2, d3, d4, d5, d6] => { results := [.lit (.bool false)], args := [d1, d2, d3, d4, d5, d6] }
  | _ => none }
def TransformCutsWrongFalsely : Prop := transformCutsRow.holds Try.pinned (OpenSpec.ofChange transformCutsWrong)

/-- 'minuetlaw5.TransformBoth': WHATEVER THE INPUT: true; the input reads as it did. -/
def transformBothSpec : ChangeSpec := { name := "transformBoth", fn := fun _ => fun
  | [d1, d2, d3, d4, d5] => { results := [.lit (.bool true)], args := [d1, d2, d3, d4, d5] }
  | _ => none }
def transformBothRow : OpenClaim := { program := "ytldaokclpkcmmab", sum := "ca6f5c1adca8c2b48f849173a1db6989da2397ff783e32fbaa6f06da755400f0", func := "minuet/minuetlaw5.TransformBoth", spec := "transformBoth", recurses := true, apart := false }
def TransformBothSaid : Prop := transformBothRow.holds Try.pinned (OpenSpec.ofChange transformBothSpec)

/-- ITS FALSE NEIGHBOUR: 'it returns false'. Refute it at one input. -/
def transformBothWrong : ChangeSpec := { name := "transformBoth", fn := fun _ => fun
  | [d1, d2, d3, d4, d5] => { results := [.lit (.bool false)], args := [d1, d2, d3, d4, d5] }
  | _ => none }
def TransformBothWrongFalsely : Prop := transformBothRow.holds Try.pinned (OpenSpec.ofChange transformBothWrong)

/-- 'minuetlaw5.TransformMeets': WHATEVER THE INPUT: true; the input reads as it did. -/
def transformMeetsSpec : ChangeSpec := { name := "transformMeets", fn := fun _ => fun
  | [d1, d2, d3, d4] => { results := [.lit (.bool true)], args := [d1, d2, d3, d4] }
  | _ => none }
def transformMeetsRow : OpenClaim := { program := "ytldaokclpkcmmab", sum := "ca6f5c1adca8c2b48f849173a1db6989da2397ff783e32fbaa6f06da755400f0", func := "minuet/minuetlaw5.TransformMeets", spec := "transformMeets", inPlace := ["internal/abi.NoEscape"], recurses := true, apart := false }
def TransformMeetsSaid : Prop := transformMeetsRow.holds Try.pinned (OpenSpec.ofChange transformMeetsSpec)

/-- ITS FALSE NEIGHBOUR: 'it returns false'. Refute it at one input. -/
def transformMeetsWrong : ChangeSpec := { name := "transformMeets", fn := fun _ => fun
  | [d1, d2, d3, d4] => { results := [.lit (.bool false)], args := [d1, d2, d3, d4] }
  | _ => none }
def TransformMeetsWrongFalsely : Prop := transformMeetsRow.holds Try.pinned (OpenSpec.ofChange transformMeetsWrong)

/-- 'minuetlaw19.Histories': WHATEVER THE INPUT: true; the input reads as it did. -/
def historiesSpec : ChangeSpec := { name := "histories", fn := fun _ => fun
  | [d1, d2] => { results := [.lit (.bool true)], args := [d1, d2] }
  | _ => none }
def historiesRow : OpenClaim := { program := "ytldaokclpkcmmab", sum := "ca6f5c1adca8c2b48f849173a1db6989da2397ff783e32fbaa6f06da755400f0", func := "minuet/minuetlaw19.Histories", spec := "histories", unfollowed := true, recurses := true, apart := false }
def HistoriesSaid : Prop := historiesRow.holds Try.pinned (OpenSpec.ofChange historiesSpec)

/-- ITS FALSE NEIGHBOUR: 'it returns false'. Refute it at one input. -/
def historiesWrong : ChangeSpec := { name := "histories", fn := fun _ => fun
  | [d1, d2] => { results := [.lit (.bool false)], args := [d1, d2] }
  | _ => none }
def HistoriesWrongFalsely : Prop := historiesRow.holds Try.pinned (OpenSpec.ofChange historiesWrong)

/-- 'minuetlaw19.HistoryLast': WHATEVER THE INPUT: true; the input reads as it did. -/
def historyLastSpec : ChangeSpec := { name := "historyLast", fn := fun _ => fun
  | [d] => { results := [.lit (.bool true)], args := [d] }
  | _ => none }
def historyLastRow : OpenClaim := { program := "ytldaokclpkcmmab", sum := "ca6f5c1adca8c2b48f849173a1db6989da2397ff783e32fbaa6f06da755400f0", func := "minuet/minuetlaw19.HistoryLast", spec := "historyLast", unfollowed := true, recurses := true, apart := false }
def HistoryLastSaid : Prop := historyLastRow.holds Try.pinned (OpenSpec.ofChange historyLastSpec)

/-- ITS FALSE NEIGHBOUR: 'it returns false'. Refute it at one input. -/
def historyLastWrong : ChangeSpec := { name := "historyLast", fn := fun _ => fun
  | [d] => { results := [.lit (.bool false)], args := [d] }
  | _ => none }
def HistoryLastWrongFalsely : Prop := historyLastRow.holds Try.pinned (OpenSpec.ofChange historyLastWrong)

/-- 'minuetlaw19.HistoryForms': WHATEVER THE INPUT: true; the input reads as it did. -/
def historyFormsSpec : ChangeSpec := { name := "historyForms", fn := fun _ => fun
  | [d1, d2] => { results := [.lit (.bool true)], args := [d1, d2] }
  | _ => none }
def historyFormsRow : OpenClaim := { program := "ytldaokclpkcmmab", sum := "ca6f5c1adca8c2b48f849173a1db6989da2397ff783e32fbaa6f06da755400f0", func := "minuet/minuetlaw19.HistoryForms", spec := "historyForms", unfollowed := true, recurses := true, apart := false }
def HistoryFormsSaid : Prop := historyFormsRow.holds Try.pinned (OpenSpec.ofChange historyFormsSpec)

/-- ITS FALSE NEIGHBOUR: 'it returns false'. Refute it at one input. -/
def historyFormsWrong : ChangeSpec := { name := "historyForms", fn := fun _ => fun
  | [d1, d2] => { results := [.lit (.bool false)], args := [d1, d2] }
  | _ => none }
def HistoryFormsWrongFalsely : Prop := historyFormsRow.holds Try.pinned (OpenSpec.ofChange historyFormsWrong)

/- THE SECOND FORM. 'bulk': how many values and letters a reading holds, each counted each time it is reached (what is shared counts as often as it is met; a slice's spare places count too). A statement '..UptoSaid' is the law's where the arguments, and the package variables that the reading takes, are together of bulk at most 1048576: NARROWER than '..Said'. Prove '..Said' where nothing that the law and all that it calls make is longer than what came in: it says more and counts as full. Else prove '..UptoSaid'. A law counts once. -/
mutual
def uptoBulk {H : Type} : DataW H → Nat
  | .lit (.string bytes) => bytes.length + 1
  | .lit _ => 1
  | .nil => 1
  | .ptr d => uptoBulk d + 1
  | .slice elems spare => uptoBulkAll elems + uptoBulkAll spare + 1
  | .agg parts => uptoBulkAll parts + 1
  | .iface _ d => uptoBulk d + 1
  | .map entries => uptoBulkEntries entries + 1
  | .held _ => 1
def uptoBulkAll {H : Type} : List (DataW H) → Nat
  | [] => 0
  | d :: r => uptoBulk d + uptoBulkAll r
def uptoBulkEntries {H : Type} : List (Lit × DataW H) → Nat
  | [] => 0
  | x :: r => uptoBulkEntry x + uptoBulkEntries r
def uptoBulkEntry {H : Type} : Lit × DataW H → Nat
  | (.string bytes, d) => bytes.length + uptoBulk d + 1
  | (_, d) => uptoBulk d + 1
 end
def uptoSmall : (H : Type) → List (DataW H) → Bool := fun _ ds => decide (uptoBulkAll ds ≤ 1048576)
def OpenSpec.upto (s : _root_.Go.ChangeSpec) : _root_.Go.OpenSpec := { _root_.Go.OpenSpec.ofChange s with cond := some uptoSmall }

/-- 'minuetlaw5.Transforms', WHERE WHAT IT READS IS OF BULK AT MOST 1048576: true; the input reads as it did. -/
def transformsUptoRow : OpenClaim := { program := "ytldaokclpkcmmab", sum := "ca6f5c1adca8c2b48f849173a1db6989da2397ff783e32fbaa6f06da755400f0", func := "minuet/minuetlaw5.Transforms", spec := "transforms", recurses := true, apart := false, narrowed := true }
def TransformsUptoSaid : Prop := transformsUptoRow.holds Try.pinned (OpenSpec.upto transformsSpec)

/-- 'minuetlaw5.TransformSides', WHERE WHAT IT READS IS OF BULK AT MOST 1048576: true; the input reads as it did. -/
def transformSidesUptoRow : OpenClaim := { program := "ytldaokclpkcmmab", sum := "ca6f5c1adca8c2b48f849173a1db6989da2397ff783e32fbaa6f06da755400f0", func := "minuet/minuetlaw5.TransformSides", spec := "transformSides", recurses := true, apart := false, narrowed := true }
def TransformSidesUptoSaid : Prop := transformSidesUptoRow.holds Try.pinned (OpenSpec.upto transformSidesSpec)

/-- 'minuetlaw5.TransformNothing', WHERE WHAT IT READS IS OF BULK AT MOST 1048576: true; the input reads as it did. -/
def transformNothingUptoRow : OpenClaim := { program := "ytldaokclpkcmmab", sum := "ca6f5c1adca8c2b48f849173a1db6989da2397ff783e32fbaa6f06da755400f0", func := "minuet/minuetlaw5.TransformNothing", spec := "transformNothing", recurses := true, apart := false, narrowed := true }
def TransformNothingUptoSaid : Prop := transformNothingUptoRow.holds Try.pinned (OpenSpec.upto transformNothingSpec)

/-- 'minuetlaw5.TransformPuts', WHERE WHAT IT READS IS OF BULK AT MOST 1048576: true; the input reads as it did. -/
def transformPutsUptoRow : OpenClaim := { program := "ytldaokclpkcmmab", sum := "ca6f5c1adca8c2b48f849173a1db6989da2397ff783e32fbaa6f06da755400f0", func := "minuet/minuetlaw5.TransformPuts", spec := "transformPuts", recurses := true, apart := false, narrowed := true }
def TransformPutsUptoSaid : Prop := transformPutsUptoRow.holds Try.pinned (OpenSpec.upto transformPutsSpec)

/-- 'minuetlaw5.TransformCuts', WHERE WHAT IT READS IS OF BULK AT MOST 1048576: true; the input reads as it did. -/
def transformCutsUptoRow : OpenClaim := { program := "ytldaokclpkcmmab", sum := "ca6f5c1adca8c2b48f849173a1db6989da2397ff783e32fbaa6f06da755400f0", func := "minuet/minuetlaw5.TransformCuts", spec := "transformCuts", recurses := true, apart := false, narrowed := true }
def TransformCutsUptoSaid : Prop := transformCutsUptoRow.holds Try.pinned (OpenSpec.upto transformCutsSpec)

/-- 'minuetlaw5.TransformBoth', WHERE WHAT IT READS IS OF BULK AT MOST 1048576: true; the input reads as it did. -/
def transformBothUptoRow : OpenClaim := { program := "ytldaokclpkcmmab", sum := "ca6f5c1adca8c2b48f849173a1db6989da2397ff783e32fbaa6f06da755400f0", func := "minuet/minuetlaw5.TransformBoth", spec := "transformBoth", recurses := true, apart := false, narrowed := true }
def TransformBothUptoSaid : Prop := transformBothUptoRow.holds Try.pinned (OpenSpec.upto transformBothSpec)

/-- 'minuetlaw5.TransformMeets', WHERE WHAT IT READS IS OF BULK AT MOST 1048576: true; the input reads as it did. -/
def transformMeetsUptoRow : OpenClaim := { program := "ytldaokclpkcmmab", sum := "ca6f5c1adca8c2b48f849173a1db6989da2397ff783e32fbaa6f06da755400f0", func := "minuet/minuetlaw5.TransformMeets", spec := "transformMeets", inPlace := ["internal/abi.NoEscape"], recurses := true, apart := false, narrowed := true }
def TransformMeetsUptoSaid : Prop := transformMeetsUptoRow.holds Try.pinned (OpenSpec.upto transformMeetsSpec)

/-- 'minuetlaw19.Histories', WHERE WHAT IT READS IS OF BULK AT MOST 1048576: true; the input reads as it did. -/
def historiesUptoRow : OpenClaim := { program := "ytldaokclpkcmmab", sum := "ca6f5c1adca8c2b48f849173a1db6989da2397ff783e32fbaa6f06da755400f0", func := "minuet/minuetlaw19.Histories", spec := "histories", unfollowed := true, recurses := true, apart := false, narrowed := true }
def HistoriesUptoSaid : Prop := historiesUptoRow.holds Try.pinned (OpenSpec.upto historiesSpec)

/-- 'minuetlaw19.HistoryLast', WHERE WHAT IT READS IS OF BULK AT MOST 1048576: true; the input reads as it did. -/
def historyLastUptoRow : OpenClaim := { program := "ytldaokclpkcmmab", sum := "ca6f5c1adca8c2b48f849173a1db6989da2397ff783e32fbaa6f06da755400f0", func := "minuet/minuetlaw19.HistoryLast", spec := "historyLast", unfollowed := true, recurses := true, apart := false, narrowed := true }
def HistoryLastUptoSaid : Prop := historyLastUptoRow.holds Try.pinned (OpenSpec.upto historyLastSpec)

/-- 'minuetlaw19.HistoryForms', WHERE WHAT IT READS IS OF BULK AT MOST 1048576: true; the input reads as it did. -/
def historyFormsUptoRow : OpenClaim := { program := "ytldaokclpkcmmab", sum := "ca6f5c1adca8c2b48f849173a1db6989da2397ff783e32fbaa6f06da755400f0", func := "minuet/minuetlaw19.HistoryForms", spec := "historyForms", unfollowed := true, recurses := true, apart := false, narrowed := true }
def HistoryFormsUptoSaid : Prop := historyFormsUptoRow.holds Try.pinned (OpenSpec.upto historyFormsSpec)

end Rows
end Go.Proofs.Ytldaokclpkcmmab
