/-
  DERIVED. GIVEN WITH THE SEED: THE CARDS: each row of YtccjjcdjgibilaaDoorRows.lean that lists a variable, with what it lists TIED to the program's text (the seventh form; the later family's looks); each row that meets fmt, with fmt's text TOLD by the authors' own Lean function (tested against real Go, not proved from fmt's source: count such statements apart). THE CARD IS WHAT COUNTS. Prove the row's statement (the work); the ties are given (YtccjjcdjgibilaaDoorTie.lean); close each card by the builder's one call (the guide's Derived/Test/ToyasCard.lean, 'card_holds'). Laid BY PROGRAM, IN A SANDBOX (cutbox-door.mjs). By AI agents, Wed Nov 11 2026. No macro, syntax, notation, axiom, sorry.
-/
import Derived.Test.YtccjjcdjgibilaaDoorRows
import GoSem.ClaimSeven
namespace Go.Proofs.YtccjjcdjgibilaaDoor
namespace Rows

/-- THE TIED CARD OF 'pairlegallaw4.AsmTells'. -/
def asmTellsCard : Claim7 := { stood := { row := asmTellsRow, standIns := [], harness := (true, "e1a8894b109df1da22eaa41ce2b04d84bf76c671ad24be7c7d742b6ace5b26c0"), looks := true }, kinds := [], alts := [], laidByText := true, laidKinds := [.data, .data, .data], laidTests := true, laidLooks := .later }
def AsmTellsCardSaid : Prop := Claim7.holds Tryd.pinned (.plain (OpenSpec.ofChange asmTellsSpec)) asmTellsCard

/-- THE TIED CARD OF 'pairlegallaw4.AsmReads'. -/
def asmReadsCard : Claim7 := { stood := { row := asmReadsRow, standIns := [], harness := (true, "e1a8894b109df1da22eaa41ce2b04d84bf76c671ad24be7c7d742b6ace5b26c0"), looks := true }, kinds := [], alts := [], laidByText := true, laidKinds := [.data, .data, .data, .data, .sentinel, .sentinel, .pinned], laidTests := true, laidLooks := .later }
def AsmReadsCardSaid : Prop := Claim7.holds Tryd.pinned (.plain (OpenSpec.ofChange asmReadsSpec)) asmReadsCard

/-- THE TIED CARD OF 'pairlegallaw4.AsmRemarks'. -/
def asmRemarksCard : Claim7 := { stood := { row := asmRemarksRow, standIns := [], harness := (true, "e1a8894b109df1da22eaa41ce2b04d84bf76c671ad24be7c7d742b6ace5b26c0"), looks := true }, kinds := [], alts := [], laidByText := true, laidKinds := [.data, .data, .data, .data, .sentinel, .sentinel, .pinned], laidTests := true, laidLooks := .later }
def AsmRemarksCardSaid : Prop := Claim7.holds Tryd.pinned (.plain (OpenSpec.ofChange asmRemarksSpec)) asmRemarksCard

/-- THE TIED CARD OF 'pairlegallaw4.AsmWords'. -/
def asmWordsCard : Claim7 := { stood := { row := asmWordsRow, standIns := [], harness := (true, "e1a8894b109df1da22eaa41ce2b04d84bf76c671ad24be7c7d742b6ace5b26c0"), looks := true }, kinds := [], alts := [], laidByText := true, laidKinds := [.data, .data, .data, .data, .sentinel, .sentinel, .pinned], laidTests := true, laidLooks := .later }
def AsmWordsCardSaid : Prop := Claim7.holds Tryd.pinned (.plain (OpenSpec.ofChange asmWordsSpec)) asmWordsCard

/-- THE SECOND FORM's CARD OF 'pairlegallaw4.AsmTells'. -/
def asmTellsUptoCard : Claim7 := { stood := { row := asmTellsUptoRow, standIns := [], harness := (true, "e1a8894b109df1da22eaa41ce2b04d84bf76c671ad24be7c7d742b6ace5b26c0"), looks := true }, kinds := [], alts := [], laidByText := true, laidKinds := [.data, .data, .data], laidTests := true, laidLooks := .later }
def AsmTellsUptoCardSaid : Prop := Claim7.holds Tryd.pinned (.plain (OpenSpec.upto asmTellsSpec)) asmTellsUptoCard

/-- THE SECOND FORM's CARD OF 'pairlegallaw4.AsmReads'. -/
def asmReadsUptoCard : Claim7 := { stood := { row := asmReadsUptoRow, standIns := [], harness := (true, "e1a8894b109df1da22eaa41ce2b04d84bf76c671ad24be7c7d742b6ace5b26c0"), looks := true }, kinds := [], alts := [], laidByText := true, laidKinds := [.data, .data, .data, .data, .sentinel, .sentinel, .pinned], laidTests := true, laidLooks := .later }
def AsmReadsUptoCardSaid : Prop := Claim7.holds Tryd.pinned (.plain (OpenSpec.upto asmReadsSpec)) asmReadsUptoCard

/-- THE SECOND FORM's CARD OF 'pairlegallaw4.AsmRemarks'. -/
def asmRemarksUptoCard : Claim7 := { stood := { row := asmRemarksUptoRow, standIns := [], harness := (true, "e1a8894b109df1da22eaa41ce2b04d84bf76c671ad24be7c7d742b6ace5b26c0"), looks := true }, kinds := [], alts := [], laidByText := true, laidKinds := [.data, .data, .data, .data, .sentinel, .sentinel, .pinned], laidTests := true, laidLooks := .later }
def AsmRemarksUptoCardSaid : Prop := Claim7.holds Tryd.pinned (.plain (OpenSpec.upto asmRemarksSpec)) asmRemarksUptoCard

/-- THE SECOND FORM's CARD OF 'pairlegallaw4.AsmWords'. -/
def asmWordsUptoCard : Claim7 := { stood := { row := asmWordsUptoRow, standIns := [], harness := (true, "e1a8894b109df1da22eaa41ce2b04d84bf76c671ad24be7c7d742b6ace5b26c0"), looks := true }, kinds := [], alts := [], laidByText := true, laidKinds := [.data, .data, .data, .data, .sentinel, .sentinel, .pinned], laidTests := true, laidLooks := .later }
def AsmWordsUptoCardSaid : Prop := Claim7.holds Tryd.pinned (.plain (OpenSpec.upto asmWordsSpec)) asmWordsUptoCard
end Rows
end Go.Proofs.YtccjjcdjgibilaaDoor
