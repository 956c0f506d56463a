/-
  DERIVED. GIVEN WITH THE SEED: THE CARDS: each row of YtbmecnjmbhokgaaGreatDoorRows.lean that lists a variable, with what it lists TIED to the program's text (the seventh form; the later family's looks); each row that meets fmt, with fmt's text TOLD by the authors' own Lean function (tested against real Go, not proved from fmt's source: count such statements apart). THE CARD IS WHAT COUNTS. Prove the row's statement (the work); the ties are given (YtbmecnjmbhokgaaGreatDoorTie.lean); close each card by the builder's one call (the guide's Derived/Test/ToyasCard.lean, 'card_holds'). Laid BY PROGRAM, IN A SANDBOX (cutbox-door.mjs). By AI agents, Wed Nov 11 2026. No macro, syntax, notation, axiom, sorry.
-/
import Derived.Test.YtbmecnjmbhokgaaGreatDoorRows
import GoSem.ClaimSeven
namespace Go.Proofs.YtbmecnjmbhokgaaGreatDoor
namespace Rows

/-- THE TIED CARD OF 'pairlegallaw6.RtMul16'. -/
def rtMul16Card : Claim7 := { stood := { row := rtMul16Row, standIns := [], harness := (true, "9e276bfce6dd660b51d59bffda6cf0b864414f20b041d13c6d00fdb269b3c4d8"), looks := true }, kinds := [], alts := [], laidByText := true, laidKinds := [.data, .data, .data, .data, .sentinel, .sentinel, .pinned], laidTests := true, laidLooks := .later }
def RtMul16CardSaid : Prop := Claim7.holds Tryz.pinned (.plain (OpenSpec.ofChange rtMul16Spec)) rtMul16Card

/-- THE TIED CARD OF 'pairlegallaw6.RtMul32'. -/
def rtMul32Card : Claim7 := { stood := { row := rtMul32Row, standIns := [], harness := (true, "9e276bfce6dd660b51d59bffda6cf0b864414f20b041d13c6d00fdb269b3c4d8"), looks := true }, kinds := [], alts := [], laidByText := true, laidKinds := [.data, .data, .data, .data, .sentinel, .sentinel, .pinned], laidTests := true, laidLooks := .later }
def RtMul32CardSaid : Prop := Claim7.holds Tryz.pinned (.plain (OpenSpec.ofChange rtMul32Spec)) rtMul32Card

/-- THE TIED CARD OF 'pairlegallaw6.RtMul64'. -/
def rtMul64Card : Claim7 := { stood := { row := rtMul64Row, standIns := [], harness := (true, "9e276bfce6dd660b51d59bffda6cf0b864414f20b041d13c6d00fdb269b3c4d8"), looks := true }, kinds := [], alts := [], laidByText := true, laidKinds := [.data, .data, .data, .data, .sentinel, .sentinel, .pinned], laidTests := true, laidLooks := .later }
def RtMul64CardSaid : Prop := Claim7.holds Tryz.pinned (.plain (OpenSpec.ofChange rtMul64Spec)) rtMul64Card

/-- THE TIED CARD OF 'pairlegallaw6.RtUdiv16'. -/
def rtUdiv16Card : Claim7 := { stood := { row := rtUdiv16Row, standIns := [], harness := (true, "9e276bfce6dd660b51d59bffda6cf0b864414f20b041d13c6d00fdb269b3c4d8"), looks := true }, kinds := [], alts := [], laidByText := true, laidKinds := [.data, .data, .data, .data, .sentinel, .sentinel, .pinned], laidTests := true, laidLooks := .later }
def RtUdiv16CardSaid : Prop := Claim7.holds Tryz.pinned (.plain (OpenSpec.ofChange rtUdiv16Spec)) rtUdiv16Card

/-- THE TIED CARD OF 'pairlegallaw6.RtUdiv32'. -/
def rtUdiv32Card : Claim7 := { stood := { row := rtUdiv32Row, standIns := [], harness := (true, "9e276bfce6dd660b51d59bffda6cf0b864414f20b041d13c6d00fdb269b3c4d8"), looks := true }, kinds := [], alts := [], laidByText := true, laidKinds := [.data, .data, .data, .data, .sentinel, .sentinel, .pinned], laidTests := true, laidLooks := .later }
def RtUdiv32CardSaid : Prop := Claim7.holds Tryz.pinned (.plain (OpenSpec.ofChange rtUdiv32Spec)) rtUdiv32Card

/-- THE TIED CARD OF 'pairlegallaw6.RtUdiv64'. -/
def rtUdiv64Card : Claim7 := { stood := { row := rtUdiv64Row, standIns := [], harness := (true, "9e276bfce6dd660b51d59bffda6cf0b864414f20b041d13c6d00fdb269b3c4d8"), looks := true }, kinds := [], alts := [], laidByText := true, laidKinds := [.data, .data, .data, .data, .sentinel, .sentinel, .pinned], laidTests := true, laidLooks := .later }
def RtUdiv64CardSaid : Prop := Claim7.holds Tryz.pinned (.plain (OpenSpec.ofChange rtUdiv64Spec)) rtUdiv64Card

/-- THE TIED CARD OF 'pairlegallaw6.RtUrem16'. -/
def rtUrem16Card : Claim7 := { stood := { row := rtUrem16Row, standIns := [], harness := (true, "9e276bfce6dd660b51d59bffda6cf0b864414f20b041d13c6d00fdb269b3c4d8"), looks := true }, kinds := [], alts := [], laidByText := true, laidKinds := [.data, .data, .data, .data, .sentinel, .sentinel, .pinned], laidTests := true, laidLooks := .later }
def RtUrem16CardSaid : Prop := Claim7.holds Tryz.pinned (.plain (OpenSpec.ofChange rtUrem16Spec)) rtUrem16Card

/-- THE TIED CARD OF 'pairlegallaw6.RtUrem32'. -/
def rtUrem32Card : Claim7 := { stood := { row := rtUrem32Row, standIns := [], harness := (true, "9e276bfce6dd660b51d59bffda6cf0b864414f20b041d13c6d00fdb269b3c4d8"), looks := true }, kinds := [], alts := [], laidByText := true, laidKinds := [.data, .data, .data, .data, .sentinel, .sentinel, .pinned], laidTests := true, laidLooks := .later }
def RtUrem32CardSaid : Prop := Claim7.holds Tryz.pinned (.plain (OpenSpec.ofChange rtUrem32Spec)) rtUrem32Card

/-- THE TIED CARD OF 'pairlegallaw6.RtUrem64'. -/
def rtUrem64Card : Claim7 := { stood := { row := rtUrem64Row, standIns := [], harness := (true, "9e276bfce6dd660b51d59bffda6cf0b864414f20b041d13c6d00fdb269b3c4d8"), looks := true }, kinds := [], alts := [], laidByText := true, laidKinds := [.data, .data, .data, .data, .sentinel, .sentinel, .pinned], laidTests := true, laidLooks := .later }
def RtUrem64CardSaid : Prop := Claim7.holds Tryz.pinned (.plain (OpenSpec.ofChange rtUrem64Spec)) rtUrem64Card

/-- THE TIED CARD OF 'pairlegallaw6.RtSdiv16'. -/
def rtSdiv16Card : Claim7 := { stood := { row := rtSdiv16Row, standIns := [], harness := (true, "9e276bfce6dd660b51d59bffda6cf0b864414f20b041d13c6d00fdb269b3c4d8"), looks := true }, kinds := [], alts := [], laidByText := true, laidKinds := [.data, .data, .data, .data, .sentinel, .sentinel, .pinned], laidTests := true, laidLooks := .later }
def RtSdiv16CardSaid : Prop := Claim7.holds Tryz.pinned (.plain (OpenSpec.ofChange rtSdiv16Spec)) rtSdiv16Card

/-- THE TIED CARD OF 'pairlegallaw6.RtSdiv32'. -/
def rtSdiv32Card : Claim7 := { stood := { row := rtSdiv32Row, standIns := [], harness := (true, "9e276bfce6dd660b51d59bffda6cf0b864414f20b041d13c6d00fdb269b3c4d8"), looks := true }, kinds := [], alts := [], laidByText := true, laidKinds := [.data, .data, .data, .data, .sentinel, .sentinel, .pinned], laidTests := true, laidLooks := .later }
def RtSdiv32CardSaid : Prop := Claim7.holds Tryz.pinned (.plain (OpenSpec.ofChange rtSdiv32Spec)) rtSdiv32Card

/-- THE TIED CARD OF 'pairlegallaw6.RtSdiv64'. -/
def rtSdiv64Card : Claim7 := { stood := { row := rtSdiv64Row, standIns := [], harness := (true, "9e276bfce6dd660b51d59bffda6cf0b864414f20b041d13c6d00fdb269b3c4d8"), looks := true }, kinds := [], alts := [], laidByText := true, laidKinds := [.data, .data, .data, .data, .sentinel, .sentinel, .pinned], laidTests := true, laidLooks := .later }
def RtSdiv64CardSaid : Prop := Claim7.holds Tryz.pinned (.plain (OpenSpec.ofChange rtSdiv64Spec)) rtSdiv64Card

/-- THE SECOND FORM's CARD OF 'pairlegallaw6.RtMul16'. -/
def rtMul16UptoCard : Claim7 := { stood := { row := rtMul16UptoRow, standIns := [], harness := (true, "9e276bfce6dd660b51d59bffda6cf0b864414f20b041d13c6d00fdb269b3c4d8"), looks := true }, kinds := [], alts := [], laidByText := true, laidKinds := [.data, .data, .data, .data, .sentinel, .sentinel, .pinned], laidTests := true, laidLooks := .later }
def RtMul16UptoCardSaid : Prop := Claim7.holds Tryz.pinned (.plain (OpenSpec.upto rtMul16Spec)) rtMul16UptoCard

/-- THE SECOND FORM's CARD OF 'pairlegallaw6.RtMul32'. -/
def rtMul32UptoCard : Claim7 := { stood := { row := rtMul32UptoRow, standIns := [], harness := (true, "9e276bfce6dd660b51d59bffda6cf0b864414f20b041d13c6d00fdb269b3c4d8"), looks := true }, kinds := [], alts := [], laidByText := true, laidKinds := [.data, .data, .data, .data, .sentinel, .sentinel, .pinned], laidTests := true, laidLooks := .later }
def RtMul32UptoCardSaid : Prop := Claim7.holds Tryz.pinned (.plain (OpenSpec.upto rtMul32Spec)) rtMul32UptoCard

/-- THE SECOND FORM's CARD OF 'pairlegallaw6.RtMul64'. -/
def rtMul64UptoCard : Claim7 := { stood := { row := rtMul64UptoRow, standIns := [], harness := (true, "9e276bfce6dd660b51d59bffda6cf0b864414f20b041d13c6d00fdb269b3c4d8"), looks := true }, kinds := [], alts := [], laidByText := true, laidKinds := [.data, .data, .data, .data, .sentinel, .sentinel, .pinned], laidTests := true, laidLooks := .later }
def RtMul64UptoCardSaid : Prop := Claim7.holds Tryz.pinned (.plain (OpenSpec.upto rtMul64Spec)) rtMul64UptoCard

/-- THE SECOND FORM's CARD OF 'pairlegallaw6.RtUdiv16'. -/
def rtUdiv16UptoCard : Claim7 := { stood := { row := rtUdiv16UptoRow, standIns := [], harness := (true, "9e276bfce6dd660b51d59bffda6cf0b864414f20b041d13c6d00fdb269b3c4d8"), looks := true }, kinds := [], alts := [], laidByText := true, laidKinds := [.data, .data, .data, .data, .sentinel, .sentinel, .pinned], laidTests := true, laidLooks := .later }
def RtUdiv16UptoCardSaid : Prop := Claim7.holds Tryz.pinned (.plain (OpenSpec.upto rtUdiv16Spec)) rtUdiv16UptoCard

/-- THE SECOND FORM's CARD OF 'pairlegallaw6.RtUdiv32'. -/
def rtUdiv32UptoCard : Claim7 := { stood := { row := rtUdiv32UptoRow, standIns := [], harness := (true, "9e276bfce6dd660b51d59bffda6cf0b864414f20b041d13c6d00fdb269b3c4d8"), looks := true }, kinds := [], alts := [], laidByText := true, laidKinds := [.data, .data, .data, .data, .sentinel, .sentinel, .pinned], laidTests := true, laidLooks := .later }
def RtUdiv32UptoCardSaid : Prop := Claim7.holds Tryz.pinned (.plain (OpenSpec.upto rtUdiv32Spec)) rtUdiv32UptoCard

/-- THE SECOND FORM's CARD OF 'pairlegallaw6.RtUdiv64'. -/
def rtUdiv64UptoCard : Claim7 := { stood := { row := rtUdiv64UptoRow, standIns := [], harness := (true, "9e276bfce6dd660b51d59bffda6cf0b864414f20b041d13c6d00fdb269b3c4d8"), looks := true }, kinds := [], alts := [], laidByText := true, laidKinds := [.data, .data, .data, .data, .sentinel, .sentinel, .pinned], laidTests := true, laidLooks := .later }
def RtUdiv64UptoCardSaid : Prop := Claim7.holds Tryz.pinned (.plain (OpenSpec.upto rtUdiv64Spec)) rtUdiv64UptoCard

/-- THE SECOND FORM's CARD OF 'pairlegallaw6.RtUrem16'. -/
def rtUrem16UptoCard : Claim7 := { stood := { row := rtUrem16UptoRow, standIns := [], harness := (true, "9e276bfce6dd660b51d59bffda6cf0b864414f20b041d13c6d00fdb269b3c4d8"), looks := true }, kinds := [], alts := [], laidByText := true, laidKinds := [.data, .data, .data, .data, .sentinel, .sentinel, .pinned], laidTests := true, laidLooks := .later }
def RtUrem16UptoCardSaid : Prop := Claim7.holds Tryz.pinned (.plain (OpenSpec.upto rtUrem16Spec)) rtUrem16UptoCard

/-- THE SECOND FORM's CARD OF 'pairlegallaw6.RtUrem32'. -/
def rtUrem32UptoCard : Claim7 := { stood := { row := rtUrem32UptoRow, standIns := [], harness := (true, "9e276bfce6dd660b51d59bffda6cf0b864414f20b041d13c6d00fdb269b3c4d8"), looks := true }, kinds := [], alts := [], laidByText := true, laidKinds := [.data, .data, .data, .data, .sentinel, .sentinel, .pinned], laidTests := true, laidLooks := .later }
def RtUrem32UptoCardSaid : Prop := Claim7.holds Tryz.pinned (.plain (OpenSpec.upto rtUrem32Spec)) rtUrem32UptoCard

/-- THE SECOND FORM's CARD OF 'pairlegallaw6.RtUrem64'. -/
def rtUrem64UptoCard : Claim7 := { stood := { row := rtUrem64UptoRow, standIns := [], harness := (true, "9e276bfce6dd660b51d59bffda6cf0b864414f20b041d13c6d00fdb269b3c4d8"), looks := true }, kinds := [], alts := [], laidByText := true, laidKinds := [.data, .data, .data, .data, .sentinel, .sentinel, .pinned], laidTests := true, laidLooks := .later }
def RtUrem64UptoCardSaid : Prop := Claim7.holds Tryz.pinned (.plain (OpenSpec.upto rtUrem64Spec)) rtUrem64UptoCard

/-- THE SECOND FORM's CARD OF 'pairlegallaw6.RtSdiv16'. -/
def rtSdiv16UptoCard : Claim7 := { stood := { row := rtSdiv16UptoRow, standIns := [], harness := (true, "9e276bfce6dd660b51d59bffda6cf0b864414f20b041d13c6d00fdb269b3c4d8"), looks := true }, kinds := [], alts := [], laidByText := true, laidKinds := [.data, .data, .data, .data, .sentinel, .sentinel, .pinned], laidTests := true, laidLooks := .later }
def RtSdiv16UptoCardSaid : Prop := Claim7.holds Tryz.pinned (.plain (OpenSpec.upto rtSdiv16Spec)) rtSdiv16UptoCard

/-- THE SECOND FORM's CARD OF 'pairlegallaw6.RtSdiv32'. -/
def rtSdiv32UptoCard : Claim7 := { stood := { row := rtSdiv32UptoRow, standIns := [], harness := (true, "9e276bfce6dd660b51d59bffda6cf0b864414f20b041d13c6d00fdb269b3c4d8"), looks := true }, kinds := [], alts := [], laidByText := true, laidKinds := [.data, .data, .data, .data, .sentinel, .sentinel, .pinned], laidTests := true, laidLooks := .later }
def RtSdiv32UptoCardSaid : Prop := Claim7.holds Tryz.pinned (.plain (OpenSpec.upto rtSdiv32Spec)) rtSdiv32UptoCard

/-- THE SECOND FORM's CARD OF 'pairlegallaw6.RtSdiv64'. -/
def rtSdiv64UptoCard : Claim7 := { stood := { row := rtSdiv64UptoRow, standIns := [], harness := (true, "9e276bfce6dd660b51d59bffda6cf0b864414f20b041d13c6d00fdb269b3c4d8"), looks := true }, kinds := [], alts := [], laidByText := true, laidKinds := [.data, .data, .data, .data, .sentinel, .sentinel, .pinned], laidTests := true, laidLooks := .later }
def RtSdiv64UptoCardSaid : Prop := Claim7.holds Tryz.pinned (.plain (OpenSpec.upto rtSdiv64Spec)) rtSdiv64UptoCard
end Rows
end Go.Proofs.YtbmecnjmbhokgaaGreatDoor
