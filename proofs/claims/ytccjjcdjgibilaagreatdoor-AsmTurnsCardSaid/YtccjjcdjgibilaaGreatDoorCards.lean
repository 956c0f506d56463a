/-
  DERIVED. GIVEN WITH THE SEED: THE CARDS: each row of YtccjjcdjgibilaaGreatDoorRows.lean that lists a variable, with what it lists TIED to the program's text (the seventh form; the later family's looks); each row that meets fmt, with fmt's text TOLD by the authors' own Lean function (tested against real Go, not proved from fmt's source: count such statements apart). THE CARD IS WHAT COUNTS. Prove the row's statement (the work); the ties are given (YtccjjcdjgibilaaGreatDoorTie.lean); close each card by the builder's one call (the guide's Derived/Test/ToyasCard.lean, 'card_holds'). Laid BY PROGRAM, IN A SANDBOX (cutbox-door.mjs). By AI agents, Wed Nov 11 2026. No macro, syntax, notation, axiom, sorry.
-/
import Derived.Test.YtccjjcdjgibilaaGreatDoorRows
import GoSem.ClaimSeven
namespace Go.Proofs.YtccjjcdjgibilaaGreatDoor
namespace Rows

/-- THE TIED CARD OF 'pairlegallaw4.AsmTurns'. -/
def asmTurnsCard : Claim7 := { stood := { row := asmTurnsRow, standIns := [], harness := (true, "6ace4bf774761f1a275a88e786df38bc199af621d917dcb99276a508897530b5"), looks := true }, kinds := [], alts := [], laidByText := true, laidKinds := [.data, .data, .data, .data, .sentinel, .sentinel, .pinned], laidTests := true, laidLooks := .later }
def AsmTurnsCardSaid : Prop := Claim7.holds Tryz.pinned (.plain (OpenSpec.ofChange asmTurnsSpec)) asmTurnsCard

/-- THE SECOND FORM's CARD OF 'pairlegallaw4.AsmTurns'. -/
def asmTurnsUptoCard : Claim7 := { stood := { row := asmTurnsUptoRow, standIns := [], harness := (true, "6ace4bf774761f1a275a88e786df38bc199af621d917dcb99276a508897530b5"), looks := true }, kinds := [], alts := [], laidByText := true, laidKinds := [.data, .data, .data, .data, .sentinel, .sentinel, .pinned], laidTests := true, laidLooks := .later }
def AsmTurnsUptoCardSaid : Prop := Claim7.holds Tryz.pinned (.plain (OpenSpec.upto asmTurnsSpec)) asmTurnsUptoCard
end Rows
end Go.Proofs.YtccjjcdjgibilaaGreatDoor
