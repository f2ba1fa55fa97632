/-
  DERIVED. GIVEN WITH THE SEED: THE CARDS: each row of YtdnhbbgahipbdaaDoorRows.lean that lists a variable, with what it lists TIED to the program's text (the seventh form; the later family's looks); each row that meets fmt, with fmt's text TOLD by the authors' own Lean function (tested against real Go, not proved from fmt's source: count such statements apart). THE CARD IS WHAT COUNTS. Prove the row's statement (the work); the ties are given (YtdnhbbgahipbdaaDoorTie.lean); close each card by the builder's one call (the guide's Derived/Test/ToyasCard.lean, 'card_holds'). Laid BY PROGRAM, IN A SANDBOX (cutbox-door.mjs). By AI agents, Wed Nov 11 2026. No macro, syntax, notation, axiom, sorry.
-/
import Derived.Test.YtdnhbbgahipbdaaDoorRows
import GoSem.ClaimSeven
namespace Go.Proofs.YtdnhbbgahipbdaaDoor
namespace Rows

/-- THE TIED CARD OF 'minuetlaw1.Ropes'. -/
def ropesCard : Claim7 := { stood := { row := ropesRow, standIns := [], harness := (true, "90ab86658d325ab0fadcbca49ddd68a1a2ef9458c5cc7af29b412c56bfa4d334"), looks := false }, kinds := [], alts := [], laidByText := true, laidKinds := [.data, .pinned], laidTests := true, laidLooks := .later }
def RopesCardSaid : Prop := Claim7.holds Tryd.pinned (.plain (OpenSpec.ofChange ropesSpec)) ropesCard

/-- THE TIED CARD OF 'minuetlaw1.RopeForms'. -/
def ropeFormsCard : Claim7 := { stood := { row := ropeFormsRow, standIns := [], harness := (true, "90ab86658d325ab0fadcbca49ddd68a1a2ef9458c5cc7af29b412c56bfa4d334"), looks := false }, kinds := [], alts := [], laidByText := true, laidKinds := [.data, .pinned], laidTests := true, laidLooks := .later }
def RopeFormsCardSaid : Prop := Claim7.holds Tryd.pinned (.plain (OpenSpec.ofChange ropeFormsSpec)) ropeFormsCard

/-- THE TIED CARD OF 'minuetlaw1.RopeBack'. -/
def ropeBackCard : Claim7 := { stood := { row := ropeBackRow, standIns := [], harness := (true, "90ab86658d325ab0fadcbca49ddd68a1a2ef9458c5cc7af29b412c56bfa4d334"), looks := false }, kinds := [], alts := [], laidByText := true, laidKinds := [.data, .pinned], laidTests := true, laidLooks := .later }
def RopeBackCardSaid : Prop := Claim7.holds Tryd.pinned (.plain (OpenSpec.ofChange ropeBackSpec)) ropeBackCard

/-- THE TIED CARD OF 'minuetlaw1.RopeChunks'. -/
def ropeChunksCard : Claim7 := { stood := { row := ropeChunksRow, standIns := [], harness := (true, "90ab86658d325ab0fadcbca49ddd68a1a2ef9458c5cc7af29b412c56bfa4d334"), looks := false }, kinds := [], alts := [], laidByText := true, laidKinds := [.data, .pinned], laidTests := true, laidLooks := .later }
def RopeChunksCardSaid : Prop := Claim7.holds Tryd.pinned (.plain (OpenSpec.ofChange ropeChunksSpec)) ropeChunksCard

/-- THE SECOND FORM's CARD OF 'minuetlaw1.Ropes'. -/
def ropesUptoCard : Claim7 := { stood := { row := ropesUptoRow, standIns := [], harness := (true, "90ab86658d325ab0fadcbca49ddd68a1a2ef9458c5cc7af29b412c56bfa4d334"), looks := false }, kinds := [], alts := [], laidByText := true, laidKinds := [.data, .pinned], laidTests := true, laidLooks := .later }
def RopesUptoCardSaid : Prop := Claim7.holds Tryd.pinned (.plain (OpenSpec.upto ropesSpec)) ropesUptoCard

/-- THE SECOND FORM's CARD OF 'minuetlaw1.RopeForms'. -/
def ropeFormsUptoCard : Claim7 := { stood := { row := ropeFormsUptoRow, standIns := [], harness := (true, "90ab86658d325ab0fadcbca49ddd68a1a2ef9458c5cc7af29b412c56bfa4d334"), looks := false }, kinds := [], alts := [], laidByText := true, laidKinds := [.data, .pinned], laidTests := true, laidLooks := .later }
def RopeFormsUptoCardSaid : Prop := Claim7.holds Tryd.pinned (.plain (OpenSpec.upto ropeFormsSpec)) ropeFormsUptoCard

/-- THE SECOND FORM's CARD OF 'minuetlaw1.RopeBack'. -/
def ropeBackUptoCard : Claim7 := { stood := { row := ropeBackUptoRow, standIns := [], harness := (true, "90ab86658d325ab0fadcbca49ddd68a1a2ef9458c5cc7af29b412c56bfa4d334"), looks := false }, kinds := [], alts := [], laidByText := true, laidKinds := [.data, .pinned], laidTests := true, laidLooks := .later }
def RopeBackUptoCardSaid : Prop := Claim7.holds Tryd.pinned (.plain (OpenSpec.upto ropeBackSpec)) ropeBackUptoCard

/-- THE SECOND FORM's CARD OF 'minuetlaw1.RopeChunks'. -/
def ropeChunksUptoCard : Claim7 := { stood := { row := ropeChunksUptoRow, standIns := [], harness := (true, "90ab86658d325ab0fadcbca49ddd68a1a2ef9458c5cc7af29b412c56bfa4d334"), looks := false }, kinds := [], alts := [], laidByText := true, laidKinds := [.data, .pinned], laidTests := true, laidLooks := .later }
def RopeChunksUptoCardSaid : Prop := Claim7.holds Tryd.pinned (.plain (OpenSpec.upto ropeChunksSpec)) ropeChunksUptoCard
end Rows
end Go.Proofs.YtdnhbbgahipbdaaDoor
