/-
  No cell of these rows narrows 'for every input' (looked for: loops, veiled, ifaces, maps, wideKeys, modest, calm, conditions, laid).
  DERIVED. THE GIVEN ROWS OF THIS SEAT. 3 by the template 'for every input the law returns true; each argument reads behind the call as it read before'; 0 by the template 'total and deterministic' (their statements: YtgbajaljfbgilaaTotals.lean).
  GIVEN WITH THE SEED: the statements are not yours to turn. If you find one false, say at which input.
  Laid BY PROGRAM, IN A SANDBOX (cutbox-rows.mjs): the forced cells as the released guide's own fill.sh prints them over the translation e765994b7c23aee6… (all of the seat's roots in one cut). By AI agents, Wed Nov 11 2026. No macro, syntax, notation, axiom, sorry.
-/
import Derived.Test.YtgbajaljfbgilaaChecked
import GoSem.Claim
import GoSem.ClaimJoined
import GoSem.ClaimMapViews
import Derived.JoinedTies
import Derived.KernelRfl
namespace Go.Proofs.Ytgbajaljfbgilaa
/- THE CELL 'sum', in the pinned program and in every row, IS THE sha256 OF THE DUMP (.gsa) THAT YtgbajaljfbgilaaProg.lean LOADS. Nothing in Lean hashes anything: it is a label: what it is worth is what the hold of that sum in a sandbox is worth. -/
noncomputable def Try.pinned : Pinned := { name := "ytgbajaljfbgilaa", sum := "e765994b7c23aee68ddef73f12a15cb250754afa95aeb8b237c25f12c8cfac6e", checked := Try.checked }
namespace Rows
def none {H : Type} : Left H := { results := [], args := [] }

/-- 'minuetlaw8.EditTurned': WHATEVER THE INPUT: true; the input reads as it did. -/
def editTurnedSpec : ChangeSpec := { name := "editTurned", fn := fun _ => fun
  | [d1, d2] => { results := [.lit (.bool true)], args := [d1, d2] }
  | _ => none }
def editTurnedRow : OpenClaim := { program := "ytgbajaljfbgilaa", sum := "e765994b7c23aee68ddef73f12a15cb250754afa95aeb8b237c25f12c8cfac6e", func := "minuet/minuetlaw8.EditTurned", spec := "editTurned", unfollowed := true, recurses := true, apart := false }
def EditTurnedSaid : Prop := editTurnedRow.holds Try.pinned (OpenSpec.ofChange editTurnedSpec)

/-- ITS FALSE NEIGHBOUR: 'it returns false'. Refute it at one input. -/
def editTurnedWrong : ChangeSpec := { name := "editTurned", fn := fun _ => fun
  | [d1, d2] => { results := [.lit (.bool false)], args := [d1, d2] }
  | _ => none }
def EditTurnedWrongFalsely : Prop := editTurnedRow.holds Try.pinned (OpenSpec.ofChange editTurnedWrong)

/-- 'minuetlaw2.CompsNormal': WHATEVER THE INPUT: true; the input reads as it did. -/
def compsNormalSpec : ChangeSpec := { name := "compsNormal", fn := fun _ => fun
  | [d] => { results := [.lit (.bool true)], args := [d] }
  | _ => none }
def compsNormalRow : OpenClaim := { program := "ytgbajaljfbgilaa", sum := "e765994b7c23aee68ddef73f12a15cb250754afa95aeb8b237c25f12c8cfac6e", func := "minuet/minuetlaw2.CompsNormal", spec := "compsNormal", recurses := true, apart := false }
def CompsNormalSaid : Prop := compsNormalRow.holds Try.pinned (OpenSpec.ofChange compsNormalSpec)

/-- ITS FALSE NEIGHBOUR: 'it returns false'. Refute it at one input. -/
def compsNormalWrong : ChangeSpec := { name := "compsNormal", fn := fun _ => fun
  | [d] => { results := [.lit (.bool false)], args := [d] }
  | _ => none }
def CompsNormalWrongFalsely : Prop := compsNormalRow.holds Try.pinned (OpenSpec.ofChange compsNormalWrong)

/-- 'minuetlaw8.EditDoes': WHATEVER THE INPUT: true; the input reads as it did. -/
def editDoesSpec : ChangeSpec := { name := "editDoes", fn := fun _ => fun
  | [d1, d2, d3, d4] => { results := [.lit (.bool true)], args := [d1, d2, d3, d4] }
  | _ => none }
def editDoesRow : OpenClaim := { program := "ytgbajaljfbgilaa", sum := "e765994b7c23aee68ddef73f12a15cb250754afa95aeb8b237c25f12c8cfac6e", func := "minuet/minuetlaw8.EditDoes", spec := "editDoes", inPlace := ["internal/abi.NoEscape"], unfollowed := true, recurses := true, apart := false }
def EditDoesSaid : Prop := editDoesRow.holds Try.pinned (OpenSpec.ofChange editDoesSpec)

/-- ITS FALSE NEIGHBOUR: 'it returns false'. Refute it at one input. -/
def editDoesWrong : ChangeSpec := { name := "editDoes", fn := fun _ => fun
  | [d1, d2, d3, d4] => { results := [.lit (.bool false)], args := [d1, d2, d3, d4] }
  | _ => none }
def EditDoesWrongFalsely : Prop := editDoesRow.holds Try.pinned (OpenSpec.ofChange editDoesWrong)

/- THE SECOND FORM. 'bulk': how many values and letters a reading holds, each counted each time it is reached (what is shared counts as often as it is met; a slice's spare places count too). A statement '..UptoSaid' is the law's where the arguments, and the package variables that the reading takes, are together of bulk at most 1048576: NARROWER than '..Said'. Prove '..Said' where nothing that the law and all that it calls make is longer than what came in: it says more and counts as full. Else prove '..UptoSaid'. A law counts once. -/
mutual
def uptoBulk {H : Type} : DataW H → Nat
  | .lit (.string bytes) => bytes.length + 1
  | .lit _ => 1
  | .nil => 1
  | .ptr d => uptoBulk d + 1
  | .slice elems spare => uptoBulkAll elems + uptoBulkAll spare + 1
  | .agg parts => uptoBulkAll parts + 1
  | .iface _ d => uptoBulk d + 1
  | .map entries => uptoBulkEntries entries + 1
  | .held _ => 1
def uptoBulkAll {H : Type} : List (DataW H) → Nat
  | [] => 0
  | d :: r => uptoBulk d + uptoBulkAll r
def uptoBulkEntries {H : Type} : List (Lit × DataW H) → Nat
  | [] => 0
  | x :: r => uptoBulkEntry x + uptoBulkEntries r
def uptoBulkEntry {H : Type} : Lit × DataW H → Nat
  | (.string bytes, d) => bytes.length + uptoBulk d + 1
  | (_, d) => uptoBulk d + 1
 end
def uptoSmall : (H : Type) → List (DataW H) → Bool := fun _ ds => decide (uptoBulkAll ds ≤ 1048576)
def OpenSpec.upto (s : _root_.Go.ChangeSpec) : _root_.Go.OpenSpec := { _root_.Go.OpenSpec.ofChange s with cond := some uptoSmall }

/-- 'minuetlaw8.EditTurned', WHERE WHAT IT READS IS OF BULK AT MOST 1048576: true; the input reads as it did. -/
def editTurnedUptoRow : OpenClaim := { program := "ytgbajaljfbgilaa", sum := "e765994b7c23aee68ddef73f12a15cb250754afa95aeb8b237c25f12c8cfac6e", func := "minuet/minuetlaw8.EditTurned", spec := "editTurned", unfollowed := true, recurses := true, apart := false, narrowed := true }
def EditTurnedUptoSaid : Prop := editTurnedUptoRow.holds Try.pinned (OpenSpec.upto editTurnedSpec)

/-- 'minuetlaw2.CompsNormal', WHERE WHAT IT READS IS OF BULK AT MOST 1048576: true; the input reads as it did. -/
def compsNormalUptoRow : OpenClaim := { program := "ytgbajaljfbgilaa", sum := "e765994b7c23aee68ddef73f12a15cb250754afa95aeb8b237c25f12c8cfac6e", func := "minuet/minuetlaw2.CompsNormal", spec := "compsNormal", recurses := true, apart := false, narrowed := true }
def CompsNormalUptoSaid : Prop := compsNormalUptoRow.holds Try.pinned (OpenSpec.upto compsNormalSpec)

/-- 'minuetlaw8.EditDoes', WHERE WHAT IT READS IS OF BULK AT MOST 1048576: true; the input reads as it did. -/
def editDoesUptoRow : OpenClaim := { program := "ytgbajaljfbgilaa", sum := "e765994b7c23aee68ddef73f12a15cb250754afa95aeb8b237c25f12c8cfac6e", func := "minuet/minuetlaw8.EditDoes", spec := "editDoes", inPlace := ["internal/abi.NoEscape"], unfollowed := true, recurses := true, apart := false, narrowed := true }
def EditDoesUptoSaid : Prop := editDoesUptoRow.holds Try.pinned (OpenSpec.upto editDoesSpec)

end Rows
end Go.Proofs.Ytgbajaljfbgilaa
