/-
  No cell of these rows narrows 'for every input' (looked for: loops, veiled, ifaces, maps, wideKeys, modest, calm, conditions, laid).
  DERIVED. THE GIVEN ROWS OF THIS SEAT. 4 by the template 'for every input the law returns true; each argument reads behind the call as it read before'; 0 by the template 'total and deterministic' (their statements: YtmfgomnjapegiaaTotals.lean).
  GIVEN WITH THE SEED: the statements are not yours to turn. If you find one false, say at which input.
  Laid BY PROGRAM, IN A SANDBOX (cutbox-rows.mjs): the forced cells as the released guide's own fill.sh prints them over the translation c1e6990b32637280… (all of the seat's roots in one cut). By AI agents, Wed Nov 11 2026. No macro, syntax, notation, axiom, sorry.
-/
import Derived.Test.YtmfgomnjapegiaaChecked
import GoSem.Claim
import GoSem.ClaimJoined
import GoSem.ClaimMapViews
import Derived.JoinedTies
import Derived.KernelRfl
namespace Go.Proofs.Ytmfgomnjapegiaa
/- THE CELL 'sum', in the pinned program and in every row, IS THE sha256 OF THE DUMP (.gsa) THAT YtmfgomnjapegiaaProg.lean LOADS. Nothing in Lean hashes anything: it is a label: what it is worth is what the hold of that sum in a sandbox is worth. -/
noncomputable def Try.pinned : Pinned := { name := "ytmfgomnjapegiaa", sum := "c1e6990b32637280bf6868b92a8975a29a8e4de1b63bf835e3640fc4388990b3", checked := Try.checked }
namespace Rows
def none {H : Type} : Left H := { results := [], args := [] }

/-- 'pairlegallaw2.InstrJoined': WHATEVER THE INPUT: true; the input reads as it did. -/
def instrJoinedSpec : ChangeSpec := { name := "instrJoined", fn := fun _ => fun
  | [d1, d2] => { results := [.lit (.bool true)], args := [d1, d2] }
  | _ => none }
def instrJoinedRow : OpenClaim := { program := "ytmfgomnjapegiaa", sum := "c1e6990b32637280bf6868b92a8975a29a8e4de1b63bf835e3640fc4388990b3", func := "pairlegal/pairlegallaw2.InstrJoined", spec := "instrJoined", apart := false }
def InstrJoinedSaid : Prop := instrJoinedRow.holds Try.pinned (OpenSpec.ofChange instrJoinedSpec)

/-- ITS FALSE NEIGHBOUR: 'it returns false'. Refute it at one input. -/
def instrJoinedWrong : ChangeSpec := { name := "instrJoined", fn := fun _ => fun
  | [d1, d2] => { results := [.lit (.bool false)], args := [d1, d2] }
  | _ => none }
def InstrJoinedWrongFalsely : Prop := instrJoinedRow.holds Try.pinned (OpenSpec.ofChange instrJoinedWrong)

/-- 'pairlegallaw2.InstrTells': WHATEVER THE INPUT: true; the input reads as it did. -/
def instrTellsSpec : ChangeSpec := { name := "instrTells", fn := fun _ => fun
  | [d1, d2, d3] => { results := [.lit (.bool true)], args := [d1, d2, d3] }
  | _ => none }
def instrTellsRow : OpenClaim := { program := "ytmfgomnjapegiaa", sum := "c1e6990b32637280bf6868b92a8975a29a8e4de1b63bf835e3640fc4388990b3", func := "pairlegal/pairlegallaw2.InstrTells", spec := "instrTells", apart := false }
def InstrTellsSaid : Prop := instrTellsRow.holds Try.pinned (OpenSpec.ofChange instrTellsSpec)

/-- ITS FALSE NEIGHBOUR: 'it returns false'. Refute it at one input. -/
def instrTellsWrong : ChangeSpec := { name := "instrTells", fn := fun _ => fun
  | [d1, d2, d3] => { results := [.lit (.bool false)], args := [d1, d2, d3] }
  | _ => none }
def InstrTellsWrongFalsely : Prop := instrTellsRow.holds Try.pinned (OpenSpec.ofChange instrTellsWrong)

/-- 'pairlegallaw2.InstrCodes': WHATEVER THE INPUT: true; the input reads as it did. -/
def instrCodesSpec : ChangeSpec := { name := "instrCodes", fn := fun _ => fun
  | [d1, d2] => { results := [.lit (.bool true)], args := [d1, d2] }
  | _ => none }
def instrCodesRow : OpenClaim := { program := "ytmfgomnjapegiaa", sum := "c1e6990b32637280bf6868b92a8975a29a8e4de1b63bf835e3640fc4388990b3", func := "pairlegal/pairlegallaw2.InstrCodes", spec := "instrCodes", apart := false }
def InstrCodesSaid : Prop := instrCodesRow.holds Try.pinned (OpenSpec.ofChange instrCodesSpec)

/-- ITS FALSE NEIGHBOUR: 'it returns false'. Refute it at one input. -/
def instrCodesWrong : ChangeSpec := { name := "instrCodes", fn := fun _ => fun
  | [d1, d2] => { results := [.lit (.bool false)], args := [d1, d2] }
  | _ => none }
def InstrCodesWrongFalsely : Prop := instrCodesRow.holds Try.pinned (OpenSpec.ofChange instrCodesWrong)

/-- 'pairlegallaw2.InstrTurns': WHATEVER THE INPUT: true; the input reads as it did. -/
def instrTurnsSpec : ChangeSpec := { name := "instrTurns", fn := fun _ => fun
  | [d1, d2] => { results := [.lit (.bool true)], args := [d1, d2] }
  | _ => none }
def instrTurnsRow : OpenClaim := { program := "ytmfgomnjapegiaa", sum := "c1e6990b32637280bf6868b92a8975a29a8e4de1b63bf835e3640fc4388990b3", func := "pairlegal/pairlegallaw2.InstrTurns", spec := "instrTurns", apart := false }
def InstrTurnsSaid : Prop := instrTurnsRow.holds Try.pinned (OpenSpec.ofChange instrTurnsSpec)

/-- ITS FALSE NEIGHBOUR: 'it returns false'. Refute it at one input. -/
def instrTurnsWrong : ChangeSpec := { name := "instrTurns", fn := fun _ => fun
  | [d1, d2] => { results := [.lit (.bool false)], args := [d1, d2] }
  | _ => none }
def InstrTurnsWrongFalsely : Prop := instrTurnsRow.holds Try.pinned (OpenSpec.ofChange instrTurnsWrong)

/- THE SECOND FORM. 'bulk': how many values and letters a reading holds, each counted each time it is reached (what is shared counts as often as it is met; a slice's spare places count too). A statement '..UptoSaid' is the law's where the arguments, and the package variables that the reading takes, are together of bulk at most 1048576: NARROWER than '..Said'. Prove '..Said' where nothing that the law and all that it calls make is longer than what came in: it says more and counts as full. Else prove '..UptoSaid'. A law counts once. -/
mutual
def uptoBulk {H : Type} : DataW H → Nat
  | .lit (.string bytes) => bytes.length + 1
  | .lit _ => 1
  | .nil => 1
  | .ptr d => uptoBulk d + 1
  | .slice elems spare => uptoBulkAll elems + uptoBulkAll spare + 1
  | .agg parts => uptoBulkAll parts + 1
  | .iface _ d => uptoBulk d + 1
  | .map entries => uptoBulkEntries entries + 1
  | .held _ => 1
def uptoBulkAll {H : Type} : List (DataW H) → Nat
  | [] => 0
  | d :: r => uptoBulk d + uptoBulkAll r
def uptoBulkEntries {H : Type} : List (Lit × DataW H) → Nat
  | [] => 0
  | x :: r => uptoBulkEntry x + uptoBulkEntries r
def uptoBulkEntry {H : Type} : Lit × DataW H → Nat
  | (.string bytes, d) => bytes.length + uptoBulk d + 1
  | (_, d) => uptoBulk d + 1
 end
def uptoSmall : (H : Type) → List (DataW H) → Bool := fun _ ds => decide (uptoBulkAll ds ≤ 1048576)
def OpenSpec.upto (s : _root_.Go.ChangeSpec) : _root_.Go.OpenSpec := { _root_.Go.OpenSpec.ofChange s with cond := some uptoSmall }

/-- 'pairlegallaw2.InstrJoined', WHERE WHAT IT READS IS OF BULK AT MOST 1048576: true; the input reads as it did. -/
def instrJoinedUptoRow : OpenClaim := { program := "ytmfgomnjapegiaa", sum := "c1e6990b32637280bf6868b92a8975a29a8e4de1b63bf835e3640fc4388990b3", func := "pairlegal/pairlegallaw2.InstrJoined", spec := "instrJoined", apart := false, narrowed := true }
def InstrJoinedUptoSaid : Prop := instrJoinedUptoRow.holds Try.pinned (OpenSpec.upto instrJoinedSpec)

/-- 'pairlegallaw2.InstrTells', WHERE WHAT IT READS IS OF BULK AT MOST 1048576: true; the input reads as it did. -/
def instrTellsUptoRow : OpenClaim := { program := "ytmfgomnjapegiaa", sum := "c1e6990b32637280bf6868b92a8975a29a8e4de1b63bf835e3640fc4388990b3", func := "pairlegal/pairlegallaw2.InstrTells", spec := "instrTells", apart := false, narrowed := true }
def InstrTellsUptoSaid : Prop := instrTellsUptoRow.holds Try.pinned (OpenSpec.upto instrTellsSpec)

/-- 'pairlegallaw2.InstrCodes', WHERE WHAT IT READS IS OF BULK AT MOST 1048576: true; the input reads as it did. -/
def instrCodesUptoRow : OpenClaim := { program := "ytmfgomnjapegiaa", sum := "c1e6990b32637280bf6868b92a8975a29a8e4de1b63bf835e3640fc4388990b3", func := "pairlegal/pairlegallaw2.InstrCodes", spec := "instrCodes", apart := false, narrowed := true }
def InstrCodesUptoSaid : Prop := instrCodesUptoRow.holds Try.pinned (OpenSpec.upto instrCodesSpec)

/-- 'pairlegallaw2.InstrTurns', WHERE WHAT IT READS IS OF BULK AT MOST 1048576: true; the input reads as it did. -/
def instrTurnsUptoRow : OpenClaim := { program := "ytmfgomnjapegiaa", sum := "c1e6990b32637280bf6868b92a8975a29a8e4de1b63bf835e3640fc4388990b3", func := "pairlegal/pairlegallaw2.InstrTurns", spec := "instrTurns", apart := false, narrowed := true }
def InstrTurnsUptoSaid : Prop := instrTurnsUptoRow.holds Try.pinned (OpenSpec.upto instrTurnsSpec)

end Rows
end Go.Proofs.Ytmfgomnjapegiaa
