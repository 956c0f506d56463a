/-
  No cell of these rows narrows 'for every input' (looked for: loops, veiled, ifaces, maps, wideKeys, modest, calm, conditions, laid).
  DERIVED. THE GIVEN ROWS OF THIS SEAT. 5 by the template 'for every input the law returns true; each argument reads behind the call as it read before'; 0 by the template 'total and deterministic' (their statements: YtibkcfpcfbodaaaTotals.lean).
  GIVEN WITH THE SEED: the statements are not yours to turn. If you find one false, say at which input.
  Laid BY PROGRAM, IN A SANDBOX (cutbox-rows.mjs): the forced cells as the released guide's own fill.sh prints them over the translation 9ebf0b3a8e778d1b… (all of the seat's roots in one cut). By AI agents, Wed Nov 11 2026. No macro, syntax, notation, axiom, sorry.
-/
import Derived.Test.YtibkcfpcfbodaaaChecked
import GoSem.Claim
import GoSem.ClaimJoined
import GoSem.ClaimMapViews
import Derived.JoinedTies
import Derived.KernelRfl
namespace Go.Proofs.Ytibkcfpcfbodaaa
/- THE CELL 'sum', in the pinned program and in every row, IS THE sha256 OF THE DUMP (.gsa) THAT YtibkcfpcfbodaaaProg.lean LOADS. Nothing in Lean hashes anything: it is a label: what it is worth is what the hold of that sum in a sandbox is worth. -/
noncomputable def Try.pinned : Pinned := { name := "ytibkcfpcfbodaaa", sum := "9ebf0b3a8e778d1b90c1329584c09eed388e21d48175b92a4ab6f5fe63f87bc5", checked := Try.checked }
namespace Rows
def none {H : Type} : Left H := { results := [], args := [] }

/-- 'pairlegallaw5.LinkMakes': WHATEVER THE INPUT: true; the input reads as it did. -/
def linkMakesSpec : ChangeSpec := { name := "linkMakes", fn := fun _ => fun
  | [d1, d2] => { results := [.lit (.bool true)], args := [d1, d2] }
  | _ => none }
def linkMakesRow : OpenClaim := { program := "ytibkcfpcfbodaaa", sum := "9ebf0b3a8e778d1b90c1329584c09eed388e21d48175b92a4ab6f5fe63f87bc5", func := "pairlegal/pairlegallaw5.LinkMakes", spec := "linkMakes", unfollowed := true, recurses := true, apart := false }
def LinkMakesSaid : Prop := linkMakesRow.holds Try.pinned (OpenSpec.ofChange linkMakesSpec)

/-- ITS FALSE NEIGHBOUR: 'it returns false'. Refute it at one input. -/
def linkMakesWrong : ChangeSpec := { name := "linkMakes", fn := fun _ => fun
  | [d1, d2] => { results := [.lit (.bool false)], args := [d1, d2] }
  | _ => none }
def LinkMakesWrongFalsely : Prop := linkMakesRow.holds Try.pinned (OpenSpec.ofChange linkMakesWrong)

/-- 'pairlegallaw5.LinkNeeds': WHATEVER THE INPUT: true; the input reads as it did. -/
def linkNeedsSpec : ChangeSpec := { name := "linkNeeds", fn := fun _ => fun
  | [d1, d2] => { results := [.lit (.bool true)], args := [d1, d2] }
  | _ => none }
def linkNeedsRow : OpenClaim := { program := "ytibkcfpcfbodaaa", sum := "9ebf0b3a8e778d1b90c1329584c09eed388e21d48175b92a4ab6f5fe63f87bc5", func := "pairlegal/pairlegallaw5.LinkNeeds", spec := "linkNeeds", unfollowed := true, recurses := true, apart := false }
def LinkNeedsSaid : Prop := linkNeedsRow.holds Try.pinned (OpenSpec.ofChange linkNeedsSpec)

/-- ITS FALSE NEIGHBOUR: 'it returns false'. Refute it at one input. -/
def linkNeedsWrong : ChangeSpec := { name := "linkNeeds", fn := fun _ => fun
  | [d1, d2] => { results := [.lit (.bool false)], args := [d1, d2] }
  | _ => none }
def LinkNeedsWrongFalsely : Prop := linkNeedsRow.holds Try.pinned (OpenSpec.ofChange linkNeedsWrong)

/-- 'pairlegallaw5.LinkMore': WHATEVER THE INPUT: true; the input reads as it did. -/
def linkMoreSpec : ChangeSpec := { name := "linkMore", fn := fun _ => fun
  | [d1, d2, d3] => { results := [.lit (.bool true)], args := [d1, d2, d3] }
  | _ => none }
def linkMoreRow : OpenClaim := { program := "ytibkcfpcfbodaaa", sum := "9ebf0b3a8e778d1b90c1329584c09eed388e21d48175b92a4ab6f5fe63f87bc5", func := "pairlegal/pairlegallaw5.LinkMore", spec := "linkMore", unfollowed := true, recurses := true, apart := false }
def LinkMoreSaid : Prop := linkMoreRow.holds Try.pinned (OpenSpec.ofChange linkMoreSpec)

/-- ITS FALSE NEIGHBOUR: 'it returns false'. Refute it at one input. -/
def linkMoreWrong : ChangeSpec := { name := "linkMore", fn := fun _ => fun
  | [d1, d2, d3] => { results := [.lit (.bool false)], args := [d1, d2, d3] }
  | _ => none }
def LinkMoreWrongFalsely : Prop := linkMoreRow.holds Try.pinned (OpenSpec.ofChange linkMoreWrong)

/-- 'pairlegallaw5.LinkAlone': WHATEVER THE INPUT: true; the input reads as it did. -/
def linkAloneSpec : ChangeSpec := { name := "linkAlone", fn := fun _ => fun
  | [d1, d2] => { results := [.lit (.bool true)], args := [d1, d2] }
  | _ => none }
def linkAloneRow : OpenClaim := { program := "ytibkcfpcfbodaaa", sum := "9ebf0b3a8e778d1b90c1329584c09eed388e21d48175b92a4ab6f5fe63f87bc5", func := "pairlegal/pairlegallaw5.LinkAlone", spec := "linkAlone", unfollowed := true, recurses := true, apart := false }
def LinkAloneSaid : Prop := linkAloneRow.holds Try.pinned (OpenSpec.ofChange linkAloneSpec)

/-- ITS FALSE NEIGHBOUR: 'it returns false'. Refute it at one input. -/
def linkAloneWrong : ChangeSpec := { name := "linkAlone", fn := fun _ => fun
  | [d1, d2] => { results := [.lit (.bool false)], args := [d1, d2] }
  | _ => none }
def LinkAloneWrongFalsely : Prop := linkAloneRow.holds Try.pinned (OpenSpec.ofChange linkAloneWrong)

/-- 'pairlegallaw5.LinkLies': WHATEVER THE INPUT: true; the input reads as it did. -/
def linkLiesSpec : ChangeSpec := { name := "linkLies", fn := fun _ => fun
  | [d1, d2] => { results := [.lit (.bool true)], args := [d1, d2] }
  | _ => none }
def linkLiesRow : OpenClaim := { program := "ytibkcfpcfbodaaa", sum := "9ebf0b3a8e778d1b90c1329584c09eed388e21d48175b92a4ab6f5fe63f87bc5", func := "pairlegal/pairlegallaw5.LinkLies", spec := "linkLies", unfollowed := true, recurses := true, apart := false }
def LinkLiesSaid : Prop := linkLiesRow.holds Try.pinned (OpenSpec.ofChange linkLiesSpec)

/-- ITS FALSE NEIGHBOUR: 'it returns false'. Refute it at one input. -/
def linkLiesWrong : ChangeSpec := { name := "linkLies", fn := fun _ => fun
  | [d1, d2] => { results := [.lit (.bool false)], args := [d1, d2] }
  | _ => none }
def LinkLiesWrongFalsely : Prop := linkLiesRow.holds Try.pinned (OpenSpec.ofChange linkLiesWrong)

/- THE SECOND FORM. 'bulk': how many values and letters a reading holds, each counted each time it is reached (what is shared counts as often as it is met; a slice's spare places count too). A statement '..UptoSaid' is the law's where the arguments, and the package variables that the reading takes, are together of bulk at most 1048576: NARROWER than '..Said'. Prove '..Said' where nothing that the law and all that it calls make is longer than what came in: it says more and counts as full. Else prove '..UptoSaid'. A law counts once. -/
mutual
def uptoBulk {H : Type} : DataW H → Nat
  | .lit (.string bytes) => bytes.length + 1
  | .lit _ => 1
  | .nil => 1
  | .ptr d => uptoBulk d + 1
  | .slice elems spare => uptoBulkAll elems + uptoBulkAll spare + 1
  | .agg parts => uptoBulkAll parts + 1
  | .iface _ d => uptoBulk d + 1
  | .map entries => uptoBulkEntries entries + 1
  | .held _ => 1
def uptoBulkAll {H : Type} : List (DataW H) → Nat
  | [] => 0
  | d :: r => uptoBulk d + uptoBulkAll r
def uptoBulkEntries {H : Type} : List (Lit × DataW H) → Nat
  | [] => 0
  | x :: r => uptoBulkEntry x + uptoBulkEntries r
def uptoBulkEntry {H : Type} : Lit × DataW H → Nat
  | (.string bytes, d) => bytes.length + uptoBulk d + 1
  | (_, d) => uptoBulk d + 1
 end
def uptoSmall : (H : Type) → List (DataW H) → Bool := fun _ ds => decide (uptoBulkAll ds ≤ 1048576)
def OpenSpec.upto (s : _root_.Go.ChangeSpec) : _root_.Go.OpenSpec := { _root_.Go.OpenSpec.ofChange s with cond := some uptoSmall }

/-- 'pairlegallaw5.LinkMakes', WHERE WHAT IT READS IS OF BULK AT MOST 1048576: true; the input reads as it did. -/
def linkMakesUptoRow : OpenClaim := { program := "ytibkcfpcfbodaaa", sum := "9ebf0b3a8e778d1b90c1329584c09eed388e21d48175b92a4ab6f5fe63f87bc5", func := "pairlegal/pairlegallaw5.LinkMakes", spec := "linkMakes", unfollowed := true, recurses := true, apart := false, narrowed := true }
def LinkMakesUptoSaid : Prop := linkMakesUptoRow.holds Try.pinned (OpenSpec.upto linkMakesSpec)

/-- 'pairlegallaw5.LinkNeeds', WHERE WHAT IT READS IS OF BULK AT MOST 1048576: true; the input reads as it did. -/
def linkNeedsUptoRow : OpenClaim := { program := "ytibkcfpcfbodaaa", sum := "9ebf0b3a8e778d1b90c1329584c09eed388e21d48175b92a4ab6f5fe63f87bc5", func := "pairlegal/pairlegallaw5.LinkNeeds", spec := "linkNeeds", unfollowed := true, recurses := true, apart := false, narrowed := true }
def LinkNeedsUptoSaid : Prop := linkNeedsUptoRow.holds Try.pinned (OpenSpec.upto linkNeedsSpec)

/-- 'pairlegallaw5.LinkMore', WHERE WHAT IT READS IS OF BULK AT MOST 1048576: true; the input reads as it did. -/
def linkMoreUptoRow : OpenClaim := { program := "ytibkcfpcfbodaaa", sum := "9ebf0b3a8e778d1b90c1329584c09eed388e21d48175b92a4ab6f5fe63f87bc5", func := "pairlegal/pairlegallaw5.LinkMore", spec := "linkMore", unfollowed := true, recurses := true, apart := false, narrowed := true }
def LinkMoreUptoSaid : Prop := linkMoreUptoRow.holds Try.pinned (OpenSpec.upto linkMoreSpec)

/-- 'pairlegallaw5.LinkAlone', WHERE WHAT IT READS IS OF BULK AT MOST 1048576: true; the input reads as it did. -/
def linkAloneUptoRow : OpenClaim := { program := "ytibkcfpcfbodaaa", sum := "9ebf0b3a8e778d1b90c1329584c09eed388e21d48175b92a4ab6f5fe63f87bc5", func := "pairlegal/pairlegallaw5.LinkAlone", spec := "linkAlone", unfollowed := true, recurses := true, apart := false, narrowed := true }
def LinkAloneUptoSaid : Prop := linkAloneUptoRow.holds Try.pinned (OpenSpec.upto linkAloneSpec)

/-- 'pairlegallaw5.LinkLies', WHERE WHAT IT READS IS OF BULK AT MOST 1048576: true; the input reads as it did. -/
def linkLiesUptoRow : OpenClaim := { program := "ytibkcfpcfbodaaa", sum := "9ebf0b3a8e778d1b90c1329584c09eed388e21d48175b92a4ab6f5fe63f87bc5", func := "pairlegal/pairlegallaw5.LinkLies", spec := "linkLies", unfollowed := true, recurses := true, apart := false, narrowed := true }
def LinkLiesUptoSaid : Prop := linkLiesUptoRow.holds Try.pinned (OpenSpec.upto linkLiesSpec)

end Rows
end Go.Proofs.Ytibkcfpcfbodaaa
