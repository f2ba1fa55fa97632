/-
  No cell of these rows narrows 'for every input' (looked for: loops, veiled, ifaces, maps, wideKeys, modest, calm, conditions, laid).
  DERIVED. THE GIVEN ROWS OF THIS SEAT. 12 by the template 'for every input the law returns true; each argument reads behind the call as it read before'; 0 by the template 'total and deterministic' (their statements: YtbkkcoppncgegaaTotals.lean).
  GIVEN WITH THE SEED: the statements are not yours to turn. If you find one false, say at which input.
  Laid BY PROGRAM, IN A SANDBOX (cutbox-rows.mjs): the forced cells as the released guide's own fill.sh prints them over the translation 4ba670469c9beaab… (all of the seat's roots in one cut). By AI agents, Wed Nov 11 2026. No macro, syntax, notation, axiom, sorry.
-/
import Derived.Test.YtbkkcoppncgegaaChecked
import GoSem.Claim
import GoSem.ClaimJoined
import GoSem.ClaimMapViews
import Derived.JoinedTies
import Derived.KernelRfl
namespace Go.Proofs.Ytbkkcoppncgegaa
/- THE CELL 'sum', in the pinned program and in every row, IS THE sha256 OF THE DUMP (.gsa) THAT YtbkkcoppncgegaaProg.lean LOADS. Nothing in Lean hashes anything: it is a label: what it is worth is what the hold of that sum in a sandbox is worth. -/
noncomputable def Try.pinned : Pinned := { name := "ytbkkcoppncgegaa", sum := "4ba670469c9beaab1ae05117df8ec1f0a7e984abb836c8524dea29bcfa535a02", checked := Try.checked }
namespace Rows
def none {H : Type} : Left H := { results := [], args := [] }

/-- 'minuetlaw0.MinuetNames': WHATEVER THE INPUT: true; the input reads as it did. -/
def minuetNamesSpec : ChangeSpec := { name := "minuetNames", fn := fun _ => fun
  | [] => { results := [.lit (.bool true)], args := [] }
  | _ => none }
def minuetNamesRow : OpenClaim := { program := "ytbkkcoppncgegaa", sum := "4ba670469c9beaab1ae05117df8ec1f0a7e984abb836c8524dea29bcfa535a02", func := "minuet/minuetlaw0.MinuetNames", spec := "minuetNames", apart := false }
def MinuetNamesSaid : Prop := minuetNamesRow.holds Try.pinned (OpenSpec.ofChange minuetNamesSpec)

/-- ITS FALSE NEIGHBOUR: 'it returns false'. Refute it at one input. -/
def minuetNamesWrong : ChangeSpec := { name := "minuetNames", fn := fun _ => fun
  | [] => { results := [.lit (.bool false)], args := [] }
  | _ => none }
def MinuetNamesWrongFalsely : Prop := minuetNamesRow.holds Try.pinned (OpenSpec.ofChange minuetNamesWrong)

/-- 'minuetlaw6.Cursors': WHATEVER THE INPUT: true; the input reads as it did. -/
def cursorsSpec : ChangeSpec := { name := "cursors", fn := fun _ => fun
  | [d1, d2, d3] => { results := [.lit (.bool true)], args := [d1, d2, d3] }
  | _ => none }
def cursorsRow : OpenClaim := { program := "ytbkkcoppncgegaa", sum := "4ba670469c9beaab1ae05117df8ec1f0a7e984abb836c8524dea29bcfa535a02", func := "minuet/minuetlaw6.Cursors", spec := "cursors", recurses := true, apart := false }
def CursorsSaid : Prop := cursorsRow.holds Try.pinned (OpenSpec.ofChange cursorsSpec)

/-- ITS FALSE NEIGHBOUR: 'it returns false'. Refute it at one input. -/
def cursorsWrong : ChangeSpec := { name := "cursors", fn := fun _ => fun
  | [d1, d2, d3] => { results := [.lit (.bool false)], args := [d1, d2, d3] }
  | _ => none }
def CursorsWrongFalsely : Prop := cursorsRow.holds Try.pinned (OpenSpec.ofChange cursorsWrong)

/-- 'minuetlaw6.CursorRises': WHATEVER THE INPUT: true; the input reads as it did. -/
def cursorRisesSpec : ChangeSpec := { name := "cursorRises", fn := fun _ => fun
  | [d1, d2, d3] => { results := [.lit (.bool true)], args := [d1, d2, d3] }
  | _ => none }
def cursorRisesRow : OpenClaim := { program := "ytbkkcoppncgegaa", sum := "4ba670469c9beaab1ae05117df8ec1f0a7e984abb836c8524dea29bcfa535a02", func := "minuet/minuetlaw6.CursorRises", spec := "cursorRises", recurses := true, apart := false }
def CursorRisesSaid : Prop := cursorRisesRow.holds Try.pinned (OpenSpec.ofChange cursorRisesSpec)

/-- ITS FALSE NEIGHBOUR: 'it returns false'. Refute it at one input. -/
def cursorRisesWrong : ChangeSpec := { name := "cursorRises", fn := fun _ => fun
  | [d1, d2, d3] => { results := [.lit (.bool false)], args := [d1, d2, d3] }
  | _ => none }
def CursorRisesWrongFalsely : Prop := cursorRisesRow.holds Try.pinned (OpenSpec.ofChange cursorRisesWrong)

/-- 'minuetlaw6.CursorSigns': WHATEVER THE INPUT: true; the input reads as it did. -/
def cursorSignsSpec : ChangeSpec := { name := "cursorSigns", fn := fun _ => fun
  | [d1, d2, d3] => { results := [.lit (.bool true)], args := [d1, d2, d3] }
  | _ => none }
def cursorSignsRow : OpenClaim := { program := "ytbkkcoppncgegaa", sum := "4ba670469c9beaab1ae05117df8ec1f0a7e984abb836c8524dea29bcfa535a02", func := "minuet/minuetlaw6.CursorSigns", spec := "cursorSigns", recurses := true, apart := false }
def CursorSignsSaid : Prop := cursorSignsRow.holds Try.pinned (OpenSpec.ofChange cursorSignsSpec)

/-- ITS FALSE NEIGHBOUR: 'it returns false'. Refute it at one input. -/
def cursorSignsWrong : ChangeSpec := { name := "cursorSigns", fn := fun _ => fun
  | [d1, d2, d3] => { results := [.lit (.bool false)], args := [d1, d2, d3] }
  | _ => none }
def CursorSignsWrongFalsely : Prop := cursorSignsRow.holds Try.pinned (OpenSpec.ofChange cursorSignsWrong)

/-- 'minuetlaw6.CursorNothing': WHATEVER THE INPUT: true; the input reads as it did. -/
def cursorNothingSpec : ChangeSpec := { name := "cursorNothing", fn := fun _ => fun
  | [d1, d2, d3, d4] => { results := [.lit (.bool true)], args := [d1, d2, d3, d4] }
  | _ => none }
def cursorNothingRow : OpenClaim := { program := "ytbkkcoppncgegaa", sum := "4ba670469c9beaab1ae05117df8ec1f0a7e984abb836c8524dea29bcfa535a02", func := "minuet/minuetlaw6.CursorNothing", spec := "cursorNothing", apart := false }
def CursorNothingSaid : Prop := cursorNothingRow.holds Try.pinned (OpenSpec.ofChange cursorNothingSpec)

/-- ITS FALSE NEIGHBOUR: 'it returns false'. Refute it at one input. -/
def cursorNothingWrong : ChangeSpec := { name := "cursorNothing", fn := fun _ => fun
  | [d1, d2, d3, d4] => { results := [.lit (.bool false)], args := [d1, d2, d3, d4] }
  | _ => none }
def CursorNothingWrongFalsely : Prop := cursorNothingRow.holds Try.pinned (OpenSpec.ofChange cursorNothingWrong)

/-- 'minuetlaw6.CursorEnds': WHATEVER THE INPUT: true; the input reads as it did. -/
def cursorEndsSpec : ChangeSpec := { name := "cursorEnds", fn := fun _ => fun
  | [d] => { results := [.lit (.bool true)], args := [d] }
  | _ => none }
def cursorEndsRow : OpenClaim := { program := "ytbkkcoppncgegaa", sum := "4ba670469c9beaab1ae05117df8ec1f0a7e984abb836c8524dea29bcfa535a02", func := "minuet/minuetlaw6.CursorEnds", spec := "cursorEnds", recurses := true, apart := false }
def CursorEndsSaid : Prop := cursorEndsRow.holds Try.pinned (OpenSpec.ofChange cursorEndsSpec)

/-- ITS FALSE NEIGHBOUR: 'it returns false'. Refute it at one input. -/
def cursorEndsWrong : ChangeSpec := { name := "cursorEnds", fn := fun _ => fun
  | [d] => { results := [.lit (.bool false)], args := [d] }
  | _ => none }
def CursorEndsWrongFalsely : Prop := cursorEndsRow.holds Try.pinned (OpenSpec.ofChange cursorEndsWrong)

/-- 'minuetlaw2.CompsAll': WHATEVER THE INPUT: true; the input reads as it did. -/
def compsAllSpec : ChangeSpec := { name := "compsAll", fn := fun _ => fun
  | [d] => { results := [.lit (.bool true)], args := [d] }
  | _ => none }
def compsAllRow : OpenClaim := { program := "ytbkkcoppncgegaa", sum := "4ba670469c9beaab1ae05117df8ec1f0a7e984abb836c8524dea29bcfa535a02", func := "minuet/minuetlaw2.CompsAll", spec := "compsAll", recurses := true, apart := false }
def CompsAllSaid : Prop := compsAllRow.holds Try.pinned (OpenSpec.ofChange compsAllSpec)

/-- ITS FALSE NEIGHBOUR: 'it returns false'. Refute it at one input. -/
def compsAllWrong : ChangeSpec := { name := "compsAll", fn := fun _ => fun
  | [d] => { results := [.lit (.bool false)], args := [d] }
  | _ => none }
def CompsAllWrongFalsely : Prop := compsAllRow.holds Try.pinned (OpenSpec.ofChange compsAllWrong)

/-- 'minuetlaw2.CompsNormal': WHATEVER THE INPUT: true; the input reads as it did. -/
def compsNormalSpec : ChangeSpec := { name := "compsNormal", fn := fun _ => fun
  | [d] => { results := [.lit (.bool true)], args := [d] }
  | _ => none }
def compsNormalRow : OpenClaim := { program := "ytbkkcoppncgegaa", sum := "4ba670469c9beaab1ae05117df8ec1f0a7e984abb836c8524dea29bcfa535a02", func := "minuet/minuetlaw2.CompsNormal", spec := "compsNormal", recurses := true, apart := false }
def CompsNormalSaid : Prop := compsNormalRow.holds Try.pinned (OpenSpec.ofChange compsNormalSpec)

/-- ITS FALSE NEIGHBOUR: 'it returns false'. Refute it at one input. -/
def compsNormalWrong : ChangeSpec := { name := "compsNormal", fn := fun _ => fun
  | [d] => { results := [.lit (.bool false)], args := [d] }
  | _ => none }
def CompsNormalWrongFalsely : Prop := compsNormalRow.holds Try.pinned (OpenSpec.ofChange compsNormalWrong)

/-- 'minuetlaw2.CompForms': WHATEVER THE INPUT: true; the input reads as it did. -/
def compFormsSpec : ChangeSpec := { name := "compForms", fn := fun _ => fun
  | [d1, d2] => { results := [.lit (.bool true)], args := [d1, d2] }
  | _ => none }
def compFormsRow : OpenClaim := { program := "ytbkkcoppncgegaa", sum := "4ba670469c9beaab1ae05117df8ec1f0a7e984abb836c8524dea29bcfa535a02", func := "minuet/minuetlaw2.CompForms", spec := "compForms", recurses := true, apart := false }
def CompFormsSaid : Prop := compFormsRow.holds Try.pinned (OpenSpec.ofChange compFormsSpec)

/-- ITS FALSE NEIGHBOUR: 'it returns false'. Refute it at one input. -/
def compFormsWrong : ChangeSpec := { name := "compForms", fn := fun _ => fun
  | [d1, d2] => { results := [.lit (.bool false)], args := [d1, d2] }
  | _ => none }
def CompFormsWrongFalsely : Prop := compFormsRow.holds Try.pinned (OpenSpec.ofChange compFormsWrong)

/-- 'minuetlaw2.CompRows': WHATEVER THE INPUT: true; the input reads as it did. -/
def compRowsSpec : ChangeSpec := { name := "compRows", fn := fun _ => fun
  | [d1, d2] => { results := [.lit (.bool true)], args := [d1, d2] }
  | _ => none }
def compRowsRow : OpenClaim := { program := "ytbkkcoppncgegaa", sum := "4ba670469c9beaab1ae05117df8ec1f0a7e984abb836c8524dea29bcfa535a02", func := "minuet/minuetlaw2.CompRows", spec := "compRows", recurses := true, apart := false }
def CompRowsSaid : Prop := compRowsRow.holds Try.pinned (OpenSpec.ofChange compRowsSpec)

/-- ITS FALSE NEIGHBOUR: 'it returns false'. Refute it at one input. -/
def compRowsWrong : ChangeSpec := { name := "compRows", fn := fun _ => fun
  | [d1, d2] => { results := [.lit (.bool false)], args := [d1, d2] }
  | _ => none }
def CompRowsWrongFalsely : Prop := compRowsRow.holds Try.pinned (OpenSpec.ofChange compRowsWrong)

/-- 'minuetlaw2.CompSizes': WHATEVER THE INPUT: true; the input reads as it did. -/
def compSizesSpec : ChangeSpec := { name := "compSizes", fn := fun _ => fun
  | [d1, d2] => { results := [.lit (.bool true)], args := [d1, d2] }
  | _ => none }
def compSizesRow : OpenClaim := { program := "ytbkkcoppncgegaa", sum := "4ba670469c9beaab1ae05117df8ec1f0a7e984abb836c8524dea29bcfa535a02", func := "minuet/minuetlaw2.CompSizes", spec := "compSizes", recurses := true, apart := false }
def CompSizesSaid : Prop := compSizesRow.holds Try.pinned (OpenSpec.ofChange compSizesSpec)

/-- ITS FALSE NEIGHBOUR: 'it returns false'. Refute it at one input. -/
def compSizesWrong : ChangeSpec := { name := "compSizes", fn := fun _ => fun
  | [d1, d2] => { results := [.lit (.bool false)], args := [d1, d2] }
  | _ => none }
def CompSizesWrongFalsely : Prop := compSizesRow.holds Try.pinned (OpenSpec.ofChange compSizesWrong)

/-- 'minuetlaw3.Applies': WHATEVER THE INPUT: true; the input reads as it did. -/
def appliesSpec : ChangeSpec := { name := "applies", fn := fun _ => fun
  | [d1, d2] => { results := [.lit (.bool true)], args := [d1, d2] }
  | _ => none }
def appliesRow : OpenClaim := { program := "ytbkkcoppncgegaa", sum := "4ba670469c9beaab1ae05117df8ec1f0a7e984abb836c8524dea29bcfa535a02", func := "minuet/minuetlaw3.Applies", spec := "applies", inPlace := ["internal/abi.NoEscape"], recurses := true, apart := false }
def AppliesSaid : Prop := appliesRow.holds Try.pinned (OpenSpec.ofChange appliesSpec)

/-- ITS FALSE NEIGHBOUR: 'it returns false'. Refute it at one input. -/
def appliesWrong : ChangeSpec := { name := "applies", fn := fun _ => fun
  | [d1, d2] => { results := [.lit (.bool false)], args := [d1, d2] }
  | _ => none }
def AppliesWrongFalsely : Prop := appliesRow.holds Try.pinned (OpenSpec.ofChange appliesWrong)

/- THE SECOND FORM. 'bulk': how many values and letters a reading holds, each counted each time it is reached (what is shared counts as often as it is met; a slice's spare places count too). A statement '..UptoSaid' is the law's where the arguments, and the package variables that the reading takes, are together of bulk at most 1048576: NARROWER than '..Said'. Prove '..Said' where nothing that the law and all that it calls make is longer than what came in: it says more and counts as full. Else prove '..UptoSaid'. A law counts once. -/
mutual
def uptoBulk {H : Type} : DataW H → Nat
  | .lit (.string bytes) => bytes.length + 1
  | .lit _ => 1
  | .nil => 1
  | .ptr d => uptoBulk d + 1
  | .slice elems spare => uptoBulkAll elems + uptoBulkAll spare + 1
  | .agg parts => uptoBulkAll parts + 1
  | .iface _ d => uptoBulk d + 1
  | .map entries => uptoBulkEntries entries + 1
  | .held _ => 1
def uptoBulkAll {H : Type} : List (DataW H) → Nat
  | [] => 0
  | d :: r => uptoBulk d + uptoBulkAll r
def uptoBulkEntries {H : Type} : List (Lit × DataW H) → Nat
  | [] => 0
  | x :: r => uptoBulkEntry x + uptoBulkEntries r
def uptoBulkEntry {H : Type} : Lit × DataW H → Nat
  | (.string bytes, d) => bytes.length + uptoBulk d + 1
  | (_, d) => uptoBulk d + 1
 end
def uptoSmall : (H : Type) → List (DataW H) → Bool := fun _ ds => decide (uptoBulkAll ds ≤ 1048576)
def OpenSpec.upto (s : _root_.Go.ChangeSpec) : _root_.Go.OpenSpec := { _root_.Go.OpenSpec.ofChange s with cond := some uptoSmall }

/-- 'minuetlaw0.MinuetNames', WHERE WHAT IT READS IS OF BULK AT MOST 1048576: true; the input reads as it did. -/
def minuetNamesUptoRow : OpenClaim := { program := "ytbkkcoppncgegaa", sum := "4ba670469c9beaab1ae05117df8ec1f0a7e984abb836c8524dea29bcfa535a02", func := "minuet/minuetlaw0.MinuetNames", spec := "minuetNames", apart := false, narrowed := true }
def MinuetNamesUptoSaid : Prop := minuetNamesUptoRow.holds Try.pinned (OpenSpec.upto minuetNamesSpec)

/-- 'minuetlaw6.Cursors', WHERE WHAT IT READS IS OF BULK AT MOST 1048576: true; the input reads as it did. -/
def cursorsUptoRow : OpenClaim := { program := "ytbkkcoppncgegaa", sum := "4ba670469c9beaab1ae05117df8ec1f0a7e984abb836c8524dea29bcfa535a02", func := "minuet/minuetlaw6.Cursors", spec := "cursors", recurses := true, apart := false, narrowed := true }
def CursorsUptoSaid : Prop := cursorsUptoRow.holds Try.pinned (OpenSpec.upto cursorsSpec)

/-- 'minuetlaw6.CursorRises', WHERE WHAT IT READS IS OF BULK AT MOST 1048576: true; the input reads as it did. -/
def cursorRisesUptoRow : OpenClaim := { program := "ytbkkcoppncgegaa", sum := "4ba670469c9beaab1ae05117df8ec1f0a7e984abb836c8524dea29bcfa535a02", func := "minuet/minuetlaw6.CursorRises", spec := "cursorRises", recurses := true, apart := false, narrowed := true }
def CursorRisesUptoSaid : Prop := cursorRisesUptoRow.holds Try.pinned (OpenSpec.upto cursorRisesSpec)

/-- 'minuetlaw6.CursorSigns', WHERE WHAT IT READS IS OF BULK AT MOST 1048576: true; the input reads as it did. -/
def cursorSignsUptoRow : OpenClaim := { program := "ytbkkcoppncgegaa", sum := "4ba670469c9beaab1ae05117df8ec1f0a7e984abb836c8524dea29bcfa535a02", func := "minuet/minuetlaw6.CursorSigns", spec := "cursorSigns", recurses := true, apart := false, narrowed := true }
def CursorSignsUptoSaid : Prop := cursorSignsUptoRow.holds Try.pinned (OpenSpec.upto cursorSignsSpec)

/-- 'minuetlaw6.CursorNothing', WHERE WHAT IT READS IS OF BULK AT MOST 1048576: true; the input reads as it did. -/
def cursorNothingUptoRow : OpenClaim := { program := "ytbkkcoppncgegaa", sum := "4ba670469c9beaab1ae05117df8ec1f0a7e984abb836c8524dea29bcfa535a02", func := "minuet/minuetlaw6.CursorNothing", spec := "cursorNothing", apart := false, narrowed := true }
def CursorNothingUptoSaid : Prop := cursorNothingUptoRow.holds Try.pinned (OpenSpec.upto cursorNothingSpec)

/-- 'minuetlaw6.CursorEnds', WHERE WHAT IT READS IS OF BULK AT MOST 1048576: true; the input reads as it did. -/
def cursorEndsUptoRow : OpenClaim := { program := "ytbkkcoppncgegaa", sum := "4ba670469c9beaab1ae05117df8ec1f0a7e984abb836c8524dea29bcfa535a02", func := "minuet/minuetlaw6.CursorEnds", spec := "cursorEnds", recurses := true, apart := false, narrowed := true }
def CursorEndsUptoSaid : Prop := cursorEndsUptoRow.holds Try.pinned (OpenSpec.upto cursorEndsSpec)

/-- 'minuetlaw2.CompsAll', WHERE WHAT IT READS IS OF BULK AT MOST 1048576: true; the input reads as it did. -/
def compsAllUptoRow : OpenClaim := { program := "ytbkkcoppncgegaa", sum := "4ba670469c9beaab1ae05117df8ec1f0a7e984abb836c8524dea29bcfa535a02", func := "minuet/minuetlaw2.CompsAll", spec := "compsAll", recurses := true, apart := false, narrowed := true }
def CompsAllUptoSaid : Prop := compsAllUptoRow.holds Try.pinned (OpenSpec.upto compsAllSpec)

/-- 'minuetlaw2.CompsNormal', WHERE WHAT IT READS IS OF BULK AT MOST 1048576: true; the input reads as it did. -/
def compsNormalUptoRow : OpenClaim := { program := "ytbkkcoppncgegaa", sum := "4ba670469c9beaab1ae05117df8ec1f0a7e984abb836c8524dea29bcfa535a02", func := "minuet/minuetlaw2.CompsNormal", spec := "compsNormal", recurses := true, apart := false, narrowed := true }
def CompsNormalUptoSaid : Prop := compsNormalUptoRow.holds Try.pinned (OpenSpec.upto compsNormalSpec)

/-- 'minuetlaw2.CompForms', WHERE WHAT IT READS IS OF BULK AT MOST 1048576: true; the input reads as it did. -/
def compFormsUptoRow : OpenClaim := { program := "ytbkkcoppncgegaa", sum := "4ba670469c9beaab1ae05117df8ec1f0a7e984abb836c8524dea29bcfa535a02", func := "minuet/minuetlaw2.CompForms", spec := "compForms", recurses := true, apart := false, narrowed := true }
def CompFormsUptoSaid : Prop := compFormsUptoRow.holds Try.pinned (OpenSpec.upto compFormsSpec)

/-- 'minuetlaw2.CompRows', WHERE WHAT IT READS IS OF BULK AT MOST 1048576: true; the input reads as it did. -/
def compRowsUptoRow : OpenClaim := { program := "ytbkkcoppncgegaa", sum := "4ba670469c9beaab1ae05117df8ec1f0a7e984abb836c8524dea29bcfa535a02", func := "minuet/minuetlaw2.CompRows", spec := "compRows", recurses := true, apart := false, narrowed := true }
def CompRowsUptoSaid : Prop := compRowsUptoRow.holds Try.pinned (OpenSpec.upto compRowsSpec)

/-- 'minuetlaw2.CompSizes', WHERE WHAT IT READS IS OF BULK AT MOST 1048576: true; the input reads as it did. -/
def compSizesUptoRow : OpenClaim := { program := "ytbkkcoppncgegaa", sum := "4ba670469c9beaab1ae05117df8ec1f0a7e984abb836c8524dea29bcfa535a02", func := "minuet/minuetlaw2.CompSizes", spec := "compSizes", recurses := true, apart := false, narrowed := true }
def CompSizesUptoSaid : Prop := compSizesUptoRow.holds Try.pinned (OpenSpec.upto compSizesSpec)

/-- 'minuetlaw3.Applies', WHERE WHAT IT READS IS OF BULK AT MOST 1048576: true; the input reads as it did. -/
def appliesUptoRow : OpenClaim := { program := "ytbkkcoppncgegaa", sum := "4ba670469c9beaab1ae05117df8ec1f0a7e984abb836c8524dea29bcfa535a02", func := "minuet/minuetlaw3.Applies", spec := "applies", inPlace := ["internal/abi.NoEscape"], recurses := true, apart := false, narrowed := true }
def AppliesUptoSaid : Prop := appliesUptoRow.holds Try.pinned (OpenSpec.upto appliesSpec)

end Rows
end Go.Proofs.Ytbkkcoppncgegaa
