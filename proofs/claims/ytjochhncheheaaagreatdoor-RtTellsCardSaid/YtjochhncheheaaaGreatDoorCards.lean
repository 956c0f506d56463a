/-
  DERIVED. GIVEN WITH THE SEED: THE CARDS: each row of YtjochhncheheaaaGreatDoorRows.lean that lists a variable, with what it lists TIED to the program's text (the seventh form; the later family's looks); each row that meets fmt, with fmt's text TOLD by the authors' own Lean function (tested against real Go, not proved from fmt's source: count such statements apart). THE CARD IS WHAT COUNTS. Prove the row's statement (the work); the ties are given (YtjochhncheheaaaGreatDoorTie.lean); close each card by the builder's one call (the guide's Derived/Test/ToyasCard.lean, 'card_holds'). Laid BY PROGRAM, IN A SANDBOX (cutbox-door.mjs). By AI agents, Wed Nov 11 2026. No macro, syntax, notation, axiom, sorry.
-/
import Derived.Test.YtjochhncheheaaaGreatDoorRows
import GoSem.ClaimSeven
namespace Go.Proofs.YtjochhncheheaaaGreatDoor
namespace Rows

/-- THE TIED CARD OF 'pairlegallaw6.RtTells'. -/
def rtTellsCard : Claim7 := { stood := { row := rtTellsRow, standIns := [], harness := (true, "02044cd41f7f42a5d89fdd66e4a1ed4f42a2164c28a7918a91f7c1263bf2f6b0"), looks := true }, kinds := [], alts := [], laidByText := true, laidKinds := [.data, .data, .data, .data, .sentinel, .sentinel, .pinned], laidTests := true, laidLooks := .later }
def RtTellsCardSaid : Prop := Claim7.holds Tryz.pinned (.plain (OpenSpec.ofChange rtTellsSpec)) rtTellsCard

/-- THE TIED CARD OF 'pairlegallaw6.RtAll'. -/
def rtAllCard : Claim7 := { stood := { row := rtAllRow, standIns := [], harness := (true, "02044cd41f7f42a5d89fdd66e4a1ed4f42a2164c28a7918a91f7c1263bf2f6b0"), looks := true }, kinds := [], alts := [], laidByText := true, laidKinds := [.data, .data, .data, .data, .sentinel, .sentinel, .pinned], laidTests := true, laidLooks := .later }
def RtAllCardSaid : Prop := Claim7.holds Tryz.pinned (.plain (OpenSpec.ofChange rtAllSpec)) rtAllCard

/-- THE TIED CARD OF 'pairlegallaw6.RtMul16'. -/
def rtMul16Card : Claim7 := { stood := { row := rtMul16Row, standIns := [], harness := (true, "02044cd41f7f42a5d89fdd66e4a1ed4f42a2164c28a7918a91f7c1263bf2f6b0"), looks := true }, kinds := [], alts := [], laidByText := true, laidKinds := [.data, .data, .data, .data, .sentinel, .sentinel, .pinned], laidTests := true, laidLooks := .later }
def RtMul16CardSaid : Prop := Claim7.holds Tryz.pinned (.plain (OpenSpec.ofChange rtMul16Spec)) rtMul16Card

/-- THE SECOND FORM's CARD OF 'pairlegallaw6.RtTells'. -/
def rtTellsUptoCard : Claim7 := { stood := { row := rtTellsUptoRow, standIns := [], harness := (true, "02044cd41f7f42a5d89fdd66e4a1ed4f42a2164c28a7918a91f7c1263bf2f6b0"), looks := true }, kinds := [], alts := [], laidByText := true, laidKinds := [.data, .data, .data, .data, .sentinel, .sentinel, .pinned], laidTests := true, laidLooks := .later }
def RtTellsUptoCardSaid : Prop := Claim7.holds Tryz.pinned (.plain (OpenSpec.upto rtTellsSpec)) rtTellsUptoCard

/-- THE SECOND FORM's CARD OF 'pairlegallaw6.RtAll'. -/
def rtAllUptoCard : Claim7 := { stood := { row := rtAllUptoRow, standIns := [], harness := (true, "02044cd41f7f42a5d89fdd66e4a1ed4f42a2164c28a7918a91f7c1263bf2f6b0"), looks := true }, kinds := [], alts := [], laidByText := true, laidKinds := [.data, .data, .data, .data, .sentinel, .sentinel, .pinned], laidTests := true, laidLooks := .later }
def RtAllUptoCardSaid : Prop := Claim7.holds Tryz.pinned (.plain (OpenSpec.upto rtAllSpec)) rtAllUptoCard

/-- THE SECOND FORM's CARD OF 'pairlegallaw6.RtMul16'. -/
def rtMul16UptoCard : Claim7 := { stood := { row := rtMul16UptoRow, standIns := [], harness := (true, "02044cd41f7f42a5d89fdd66e4a1ed4f42a2164c28a7918a91f7c1263bf2f6b0"), looks := true }, kinds := [], alts := [], laidByText := true, laidKinds := [.data, .data, .data, .data, .sentinel, .sentinel, .pinned], laidTests := true, laidLooks := .later }
def RtMul16UptoCardSaid : Prop := Claim7.holds Tryz.pinned (.plain (OpenSpec.upto rtMul16Spec)) rtMul16UptoCard
end Rows
end Go.Proofs.YtjochhncheheaaaGreatDoor
