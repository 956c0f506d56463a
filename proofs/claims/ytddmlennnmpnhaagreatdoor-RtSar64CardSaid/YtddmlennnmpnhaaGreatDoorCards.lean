/-
  DERIVED. GIVEN WITH THE SEED: THE CARDS: each row of YtddmlennnmpnhaaGreatDoorRows.lean that lists a variable, with what it lists TIED to the program's text (the seventh form; the later family's looks); each row that meets fmt, with fmt's text TOLD by the authors' own Lean function (tested against real Go, not proved from fmt's source: count such statements apart). THE CARD IS WHAT COUNTS. Prove the row's statement (the work); the ties are given (YtddmlennnmpnhaaGreatDoorTie.lean); close each card by the builder's one call (the guide's Derived/Test/ToyasCard.lean, 'card_holds'). Laid BY PROGRAM, IN A SANDBOX (cutbox-door.mjs). By AI agents, Wed Nov 11 2026. No macro, syntax, notation, axiom, sorry.
-/
import Derived.Test.YtddmlennnmpnhaaGreatDoorRows
import GoSem.ClaimSeven
namespace Go.Proofs.YtddmlennnmpnhaaGreatDoor
namespace Rows

/-- THE TIED CARD OF 'pairlegallaw6.RtSrem16'. -/
def rtSrem16Card : Claim7 := { stood := { row := rtSrem16Row, standIns := [], harness := (true, "31a431bb1d7abeed5a5d3dc14d781d0dd723060d2fdb0ae527405603310b5b95"), looks := true }, kinds := [], alts := [], laidByText := true, laidKinds := [.data, .data, .data, .data, .sentinel, .sentinel, .pinned], laidTests := true, laidLooks := .later }
def RtSrem16CardSaid : Prop := Claim7.holds Tryz.pinned (.plain (OpenSpec.ofChange rtSrem16Spec)) rtSrem16Card

/-- THE TIED CARD OF 'pairlegallaw6.RtSrem32'. -/
def rtSrem32Card : Claim7 := { stood := { row := rtSrem32Row, standIns := [], harness := (true, "31a431bb1d7abeed5a5d3dc14d781d0dd723060d2fdb0ae527405603310b5b95"), looks := true }, kinds := [], alts := [], laidByText := true, laidKinds := [.data, .data, .data, .data, .sentinel, .sentinel, .pinned], laidTests := true, laidLooks := .later }
def RtSrem32CardSaid : Prop := Claim7.holds Tryz.pinned (.plain (OpenSpec.ofChange rtSrem32Spec)) rtSrem32Card

/-- THE TIED CARD OF 'pairlegallaw6.RtSrem64'. -/
def rtSrem64Card : Claim7 := { stood := { row := rtSrem64Row, standIns := [], harness := (true, "31a431bb1d7abeed5a5d3dc14d781d0dd723060d2fdb0ae527405603310b5b95"), looks := true }, kinds := [], alts := [], laidByText := true, laidKinds := [.data, .data, .data, .data, .sentinel, .sentinel, .pinned], laidTests := true, laidLooks := .later }
def RtSrem64CardSaid : Prop := Claim7.holds Tryz.pinned (.plain (OpenSpec.ofChange rtSrem64Spec)) rtSrem64Card

/-- THE TIED CARD OF 'pairlegallaw6.RtShl16'. -/
def rtShl16Card : Claim7 := { stood := { row := rtShl16Row, standIns := [], harness := (true, "31a431bb1d7abeed5a5d3dc14d781d0dd723060d2fdb0ae527405603310b5b95"), looks := true }, kinds := [], alts := [], laidByText := true, laidKinds := [.data, .data, .data, .data, .sentinel, .sentinel, .pinned], laidTests := true, laidLooks := .later }
def RtShl16CardSaid : Prop := Claim7.holds Tryz.pinned (.plain (OpenSpec.ofChange rtShl16Spec)) rtShl16Card

/-- THE TIED CARD OF 'pairlegallaw6.RtShl32'. -/
def rtShl32Card : Claim7 := { stood := { row := rtShl32Row, standIns := [], harness := (true, "31a431bb1d7abeed5a5d3dc14d781d0dd723060d2fdb0ae527405603310b5b95"), looks := true }, kinds := [], alts := [], laidByText := true, laidKinds := [.data, .data, .data, .data, .sentinel, .sentinel, .pinned], laidTests := true, laidLooks := .later }
def RtShl32CardSaid : Prop := Claim7.holds Tryz.pinned (.plain (OpenSpec.ofChange rtShl32Spec)) rtShl32Card

/-- THE TIED CARD OF 'pairlegallaw6.RtShl64'. -/
def rtShl64Card : Claim7 := { stood := { row := rtShl64Row, standIns := [], harness := (true, "31a431bb1d7abeed5a5d3dc14d781d0dd723060d2fdb0ae527405603310b5b95"), looks := true }, kinds := [], alts := [], laidByText := true, laidKinds := [.data, .data, .data, .data, .sentinel, .sentinel, .pinned], laidTests := true, laidLooks := .later }
def RtShl64CardSaid : Prop := Claim7.holds Tryz.pinned (.plain (OpenSpec.ofChange rtShl64Spec)) rtShl64Card

/-- THE TIED CARD OF 'pairlegallaw6.RtShr16'. -/
def rtShr16Card : Claim7 := { stood := { row := rtShr16Row, standIns := [], harness := (true, "31a431bb1d7abeed5a5d3dc14d781d0dd723060d2fdb0ae527405603310b5b95"), looks := true }, kinds := [], alts := [], laidByText := true, laidKinds := [.data, .data, .data, .data, .sentinel, .sentinel, .pinned], laidTests := true, laidLooks := .later }
def RtShr16CardSaid : Prop := Claim7.holds Tryz.pinned (.plain (OpenSpec.ofChange rtShr16Spec)) rtShr16Card

/-- THE TIED CARD OF 'pairlegallaw6.RtShr32'. -/
def rtShr32Card : Claim7 := { stood := { row := rtShr32Row, standIns := [], harness := (true, "31a431bb1d7abeed5a5d3dc14d781d0dd723060d2fdb0ae527405603310b5b95"), looks := true }, kinds := [], alts := [], laidByText := true, laidKinds := [.data, .data, .data, .data, .sentinel, .sentinel, .pinned], laidTests := true, laidLooks := .later }
def RtShr32CardSaid : Prop := Claim7.holds Tryz.pinned (.plain (OpenSpec.ofChange rtShr32Spec)) rtShr32Card

/-- THE TIED CARD OF 'pairlegallaw6.RtShr64'. -/
def rtShr64Card : Claim7 := { stood := { row := rtShr64Row, standIns := [], harness := (true, "31a431bb1d7abeed5a5d3dc14d781d0dd723060d2fdb0ae527405603310b5b95"), looks := true }, kinds := [], alts := [], laidByText := true, laidKinds := [.data, .data, .data, .data, .sentinel, .sentinel, .pinned], laidTests := true, laidLooks := .later }
def RtShr64CardSaid : Prop := Claim7.holds Tryz.pinned (.plain (OpenSpec.ofChange rtShr64Spec)) rtShr64Card

/-- THE TIED CARD OF 'pairlegallaw6.RtSar16'. -/
def rtSar16Card : Claim7 := { stood := { row := rtSar16Row, standIns := [], harness := (true, "31a431bb1d7abeed5a5d3dc14d781d0dd723060d2fdb0ae527405603310b5b95"), looks := true }, kinds := [], alts := [], laidByText := true, laidKinds := [.data, .data, .data, .data, .sentinel, .sentinel, .pinned], laidTests := true, laidLooks := .later }
def RtSar16CardSaid : Prop := Claim7.holds Tryz.pinned (.plain (OpenSpec.ofChange rtSar16Spec)) rtSar16Card

/-- THE TIED CARD OF 'pairlegallaw6.RtSar32'. -/
def rtSar32Card : Claim7 := { stood := { row := rtSar32Row, standIns := [], harness := (true, "31a431bb1d7abeed5a5d3dc14d781d0dd723060d2fdb0ae527405603310b5b95"), looks := true }, kinds := [], alts := [], laidByText := true, laidKinds := [.data, .data, .data, .data, .sentinel, .sentinel, .pinned], laidTests := true, laidLooks := .later }
def RtSar32CardSaid : Prop := Claim7.holds Tryz.pinned (.plain (OpenSpec.ofChange rtSar32Spec)) rtSar32Card

/-- THE TIED CARD OF 'pairlegallaw6.RtSar64'. -/
def rtSar64Card : Claim7 := { stood := { row := rtSar64Row, standIns := [], harness := (true, "31a431bb1d7abeed5a5d3dc14d781d0dd723060d2fdb0ae527405603310b5b95"), looks := true }, kinds := [], alts := [], laidByText := true, laidKinds := [.data, .data, .data, .data, .sentinel, .sentinel, .pinned], laidTests := true, laidLooks := .later }
def RtSar64CardSaid : Prop := Claim7.holds Tryz.pinned (.plain (OpenSpec.ofChange rtSar64Spec)) rtSar64Card

/-- THE SECOND FORM's CARD OF 'pairlegallaw6.RtSrem16'. -/
def rtSrem16UptoCard : Claim7 := { stood := { row := rtSrem16UptoRow, standIns := [], harness := (true, "31a431bb1d7abeed5a5d3dc14d781d0dd723060d2fdb0ae527405603310b5b95"), looks := true }, kinds := [], alts := [], laidByText := true, laidKinds := [.data, .data, .data, .data, .sentinel, .sentinel, .pinned], laidTests := true, laidLooks := .later }
def RtSrem16UptoCardSaid : Prop := Claim7.holds Tryz.pinned (.plain (OpenSpec.upto rtSrem16Spec)) rtSrem16UptoCard

/-- THE SECOND FORM's CARD OF 'pairlegallaw6.RtSrem32'. -/
def rtSrem32UptoCard : Claim7 := { stood := { row := rtSrem32UptoRow, standIns := [], harness := (true, "31a431bb1d7abeed5a5d3dc14d781d0dd723060d2fdb0ae527405603310b5b95"), looks := true }, kinds := [], alts := [], laidByText := true, laidKinds := [.data, .data, .data, .data, .sentinel, .sentinel, .pinned], laidTests := true, laidLooks := .later }
def RtSrem32UptoCardSaid : Prop := Claim7.holds Tryz.pinned (.plain (OpenSpec.upto rtSrem32Spec)) rtSrem32UptoCard

/-- THE SECOND FORM's CARD OF 'pairlegallaw6.RtSrem64'. -/
def rtSrem64UptoCard : Claim7 := { stood := { row := rtSrem64UptoRow, standIns := [], harness := (true, "31a431bb1d7abeed5a5d3dc14d781d0dd723060d2fdb0ae527405603310b5b95"), looks := true }, kinds := [], alts := [], laidByText := true, laidKinds := [.data, .data, .data, .data, .sentinel, .sentinel, .pinned], laidTests := true, laidLooks := .later }
def RtSrem64UptoCardSaid : Prop := Claim7.holds Tryz.pinned (.plain (OpenSpec.upto rtSrem64Spec)) rtSrem64UptoCard

/-- THE SECOND FORM's CARD OF 'pairlegallaw6.RtShl16'. -/
def rtShl16UptoCard : Claim7 := { stood := { row := rtShl16UptoRow, standIns := [], harness := (true, "31a431bb1d7abeed5a5d3dc14d781d0dd723060d2fdb0ae527405603310b5b95"), looks := true }, kinds := [], alts := [], laidByText := true, laidKinds := [.data, .data, .data, .data, .sentinel, .sentinel, .pinned], laidTests := true, laidLooks := .later }
def RtShl16UptoCardSaid : Prop := Claim7.holds Tryz.pinned (.plain (OpenSpec.upto rtShl16Spec)) rtShl16UptoCard

/-- THE SECOND FORM's CARD OF 'pairlegallaw6.RtShl32'. -/
def rtShl32UptoCard : Claim7 := { stood := { row := rtShl32UptoRow, standIns := [], harness := (true, "31a431bb1d7abeed5a5d3dc14d781d0dd723060d2fdb0ae527405603310b5b95"), looks := true }, kinds := [], alts := [], laidByText := true, laidKinds := [.data, .data, .data, .data, .sentinel, .sentinel, .pinned], laidTests := true, laidLooks := .later }
def RtShl32UptoCardSaid : Prop := Claim7.holds Tryz.pinned (.plain (OpenSpec.upto rtShl32Spec)) rtShl32UptoCard

/-- THE SECOND FORM's CARD OF 'pairlegallaw6.RtShl64'. -/
def rtShl64UptoCard : Claim7 := { stood := { row := rtShl64UptoRow, standIns := [], harness := (true, "31a431bb1d7abeed5a5d3dc14d781d0dd723060d2fdb0ae527405603310b5b95"), looks := true }, kinds := [], alts := [], laidByText := true, laidKinds := [.data, .data, .data, .data, .sentinel, .sentinel, .pinned], laidTests := true, laidLooks := .later }
def RtShl64UptoCardSaid : Prop := Claim7.holds Tryz.pinned (.plain (OpenSpec.upto rtShl64Spec)) rtShl64UptoCard

/-- THE SECOND FORM's CARD OF 'pairlegallaw6.RtShr16'. -/
def rtShr16UptoCard : Claim7 := { stood := { row := rtShr16UptoRow, standIns := [], harness := (true, "31a431bb1d7abeed5a5d3dc14d781d0dd723060d2fdb0ae527405603310b5b95"), looks := true }, kinds := [], alts := [], laidByText := true, laidKinds := [.data, .data, .data, .data, .sentinel, .sentinel, .pinned], laidTests := true, laidLooks := .later }
def RtShr16UptoCardSaid : Prop := Claim7.holds Tryz.pinned (.plain (OpenSpec.upto rtShr16Spec)) rtShr16UptoCard

/-- THE SECOND FORM's CARD OF 'pairlegallaw6.RtShr32'. -/
def rtShr32UptoCard : Claim7 := { stood := { row := rtShr32UptoRow, standIns := [], harness := (true, "31a431bb1d7abeed5a5d3dc14d781d0dd723060d2fdb0ae527405603310b5b95"), looks := true }, kinds := [], alts := [], laidByText := true, laidKinds := [.data, .data, .data, .data, .sentinel, .sentinel, .pinned], laidTests := true, laidLooks := .later }
def RtShr32UptoCardSaid : Prop := Claim7.holds Tryz.pinned (.plain (OpenSpec.upto rtShr32Spec)) rtShr32UptoCard

/-- THE SECOND FORM's CARD OF 'pairlegallaw6.RtShr64'. -/
def rtShr64UptoCard : Claim7 := { stood := { row := rtShr64UptoRow, standIns := [], harness := (true, "31a431bb1d7abeed5a5d3dc14d781d0dd723060d2fdb0ae527405603310b5b95"), looks := true }, kinds := [], alts := [], laidByText := true, laidKinds := [.data, .data, .data, .data, .sentinel, .sentinel, .pinned], laidTests := true, laidLooks := .later }
def RtShr64UptoCardSaid : Prop := Claim7.holds Tryz.pinned (.plain (OpenSpec.upto rtShr64Spec)) rtShr64UptoCard

/-- THE SECOND FORM's CARD OF 'pairlegallaw6.RtSar16'. -/
def rtSar16UptoCard : Claim7 := { stood := { row := rtSar16UptoRow, standIns := [], harness := (true, "31a431bb1d7abeed5a5d3dc14d781d0dd723060d2fdb0ae527405603310b5b95"), looks := true }, kinds := [], alts := [], laidByText := true, laidKinds := [.data, .data, .data, .data, .sentinel, .sentinel, .pinned], laidTests := true, laidLooks := .later }
def RtSar16UptoCardSaid : Prop := Claim7.holds Tryz.pinned (.plain (OpenSpec.upto rtSar16Spec)) rtSar16UptoCard

/-- THE SECOND FORM's CARD OF 'pairlegallaw6.RtSar32'. -/
def rtSar32UptoCard : Claim7 := { stood := { row := rtSar32UptoRow, standIns := [], harness := (true, "31a431bb1d7abeed5a5d3dc14d781d0dd723060d2fdb0ae527405603310b5b95"), looks := true }, kinds := [], alts := [], laidByText := true, laidKinds := [.data, .data, .data, .data, .sentinel, .sentinel, .pinned], laidTests := true, laidLooks := .later }
def RtSar32UptoCardSaid : Prop := Claim7.holds Tryz.pinned (.plain (OpenSpec.upto rtSar32Spec)) rtSar32UptoCard

/-- THE SECOND FORM's CARD OF 'pairlegallaw6.RtSar64'. -/
def rtSar64UptoCard : Claim7 := { stood := { row := rtSar64UptoRow, standIns := [], harness := (true, "31a431bb1d7abeed5a5d3dc14d781d0dd723060d2fdb0ae527405603310b5b95"), looks := true }, kinds := [], alts := [], laidByText := true, laidKinds := [.data, .data, .data, .data, .sentinel, .sentinel, .pinned], laidTests := true, laidLooks := .later }
def RtSar64UptoCardSaid : Prop := Claim7.holds Tryz.pinned (.plain (OpenSpec.upto rtSar64Spec)) rtSar64UptoCard
end Rows
end Go.Proofs.YtddmlennnmpnhaaGreatDoor
