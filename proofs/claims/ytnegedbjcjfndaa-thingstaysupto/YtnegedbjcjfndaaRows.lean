/-
  No cell of these rows narrows 'for every input' (looked for: loops, veiled, ifaces, maps, wideKeys, modest, calm, conditions, laid).
  DERIVED. THE GIVEN ROWS OF THIS SEAT. 3 by the template 'for every input the law returns true; each argument reads behind the call as it read before'; 0 by the template 'total and deterministic' (their statements: YtnegedbjcjfndaaTotals.lean).
  GIVEN WITH THE SEED: the statements are not yours to turn. If you find one false, say at which input.
  Laid BY PROGRAM, IN A SANDBOX (cutbox-rows.mjs): the forced cells as the released guide's own fill.sh prints them over the translation b7433eb7ab78071e… (all of the seat's roots in one cut). By AI agents, Wed Nov 11 2026. No macro, syntax, notation, axiom, sorry.
-/
import Derived.Test.YtnegedbjcjfndaaChecked
import GoSem.Claim
import GoSem.ClaimJoined
import GoSem.ClaimMapViews
import Derived.JoinedTies
import Derived.KernelRfl
namespace Go.Proofs.Ytnegedbjcjfndaa
/- THE CELL 'sum', in the pinned program and in every row, IS THE sha256 OF THE DUMP (.gsa) THAT YtnegedbjcjfndaaProg.lean LOADS. Nothing in Lean hashes anything: it is a label: what it is worth is what the hold of that sum in a sandbox is worth. -/
noncomputable def Try.pinned : Pinned := { name := "ytnegedbjcjfndaa", sum := "b7433eb7ab78071e2635b7fafbb6869440d6ba33e4e4b17e71bf921603ae5bb8", checked := Try.checked }
namespace Rows
def none {H : Type} : Left H := { results := [], args := [] }

/-- 'rialtolaw16.ThingOne': WHATEVER THE INPUT: true; the input reads as it did. -/
def thingOneSpec : ChangeSpec := { name := "thingOne", fn := fun _ => fun
  | [d] => { results := [.lit (.bool true)], args := [d] }
  | _ => none }
def thingOneRow : OpenClaim := { program := "ytnegedbjcjfndaa", sum := "b7433eb7ab78071e2635b7fafbb6869440d6ba33e4e4b17e71bf921603ae5bb8", func := "rialto/rialtolaw16.ThingOne", spec := "thingOne", unfollowed := true, recurses := true, apart := false }
def ThingOneSaid : Prop := thingOneRow.holds Try.pinned (OpenSpec.ofChange thingOneSpec)

/-- ITS FALSE NEIGHBOUR: 'it returns false'. Refute it at one input. -/
def thingOneWrong : ChangeSpec := { name := "thingOne", fn := fun _ => fun
  | [d] => { results := [.lit (.bool false)], args := [d] }
  | _ => none }
def ThingOneWrongFalsely : Prop := thingOneRow.holds Try.pinned (OpenSpec.ofChange thingOneWrong)

/-- 'rialtolaw16.ThingTells': WHATEVER THE INPUT: true; the input reads as it did. -/
def thingTellsSpec : ChangeSpec := { name := "thingTells", fn := fun _ => fun
  | [d1, d2, d3, d4, d5, d6] => { results := [.lit (.bool true)], args := [d1, d2, d3, d4, d5, d6] }
  | _ => none }
def thingTellsRow : OpenClaim := { program := "ytnegedbjcjfndaa", sum := "b7433eb7ab78071e2635b7fafbb6869440d6ba33e4e4b17e71bf921603ae5bb8", func := "rialto/rialtolaw16.ThingTells", spec := "thingTells", unfollowed := true, recurses := true, apart := false }
def ThingTellsSaid : Prop := thingTellsRow.holds Try.pinned (OpenSpec.ofChange thingTellsSpec)

/-- ITS FALSE NEIGHBOUR: 'it returns false'. Refute it at one input. -/
def thingTellsWrong : ChangeSpec := { name := "thingTells", fn := fun _ => fun
  | [d1, d2, d3, d4, d5, d6] => { results := [.lit (.bool false)], args := [d1, d2, d3, d4, d5, d6] }
  | _ => none }
def ThingTellsWrongFalsely : Prop := thingTellsRow.holds Try.pinned (OpenSpec.ofChange thingTellsWrong)

/-- 'rialtolaw16.ThingStays': WHATEVER THE INPUT: true; the input reads as it did. -/
def thingStaysSpec : ChangeSpec := { name := "thingStays", fn := fun _ => fun
  | [d1, d2] => { results := [.lit (.bool true)], args := [d1, d2] }
  | _ => none }
def thingStaysRow : OpenClaim := { program := "ytnegedbjcjfndaa", sum := "b7433eb7ab78071e2635b7fafbb6869440d6ba33e4e4b17e71bf921603ae5bb8", func := "rialto/rialtolaw16.ThingStays", spec := "thingStays", unfollowed := true, recurses := true, apart := false }
def ThingStaysSaid : Prop := thingStaysRow.holds Try.pinned (OpenSpec.ofChange thingStaysSpec)

/-- ITS FALSE NEIGHBOUR: 'it returns false'. Refute it at one input. -/
def thingStaysWrong : ChangeSpec := { name := "thingStays", fn := fun _ => fun
  | [d1, d2] => { results := [.lit (.bool false)], args := [d1, d2] }
  | _ => none }
def ThingStaysWrongFalsely : Prop := thingStaysRow.holds Try.pinned (OpenSpec.ofChange thingStaysWrong)

/- THE SECOND FORM. 'bulk': how many values and letters a reading holds, each counted each time it is reached (what is shared counts as often as it is met; a slice's spare places count too). A statement '..UptoSaid' is the law's where the arguments, and the package variables that the reading takes, are together of bulk at most 1048576: NARROWER than '..Said'. Prove '..Said' where nothing that the law and all that it calls make is longer than what came in: it says more and counts as full. Else prove '..UptoSaid'. A law counts once. -/
mutual
def uptoBulk {H : Type} : DataW H → Nat
  | .lit (.string bytes) => bytes.length + 1
  | .lit _ => 1
  | .nil => 1
  | .ptr d => uptoBulk d + 1
  | .slice elems spare => uptoBulkAll elems + uptoBulkAll spare + 1
  | .agg parts => uptoBulkAll parts + 1
  | .iface _ d => uptoBulk d + 1
  | .map entries => uptoBulkEntries entries + 1
  | .held _ => 1
def uptoBulkAll {H : Type} : List (DataW H) → Nat
  | [] => 0
  | d :: r => uptoBulk d + uptoBulkAll r
def uptoBulkEntries {H : Type} : List (Lit × DataW H) → Nat
  | [] => 0
  | x :: r => uptoBulkEntry x + uptoBulkEntries r
def uptoBulkEntry {H : Type} : Lit × DataW H → Nat
  | (.string bytes, d) => bytes.length + uptoBulk d + 1
  | (_, d) => uptoBulk d + 1
 end
def uptoSmall : (H : Type) → List (DataW H) → Bool := fun _ ds => decide (uptoBulkAll ds ≤ 1048576)
def OpenSpec.upto (s : _root_.Go.ChangeSpec) : _root_.Go.OpenSpec := { _root_.Go.OpenSpec.ofChange s with cond := some uptoSmall }

/-- 'rialtolaw16.ThingOne', WHERE WHAT IT READS IS OF BULK AT MOST 1048576: true; the input reads as it did. -/
def thingOneUptoRow : OpenClaim := { program := "ytnegedbjcjfndaa", sum := "b7433eb7ab78071e2635b7fafbb6869440d6ba33e4e4b17e71bf921603ae5bb8", func := "rialto/rialtolaw16.ThingOne", spec := "thingOne", unfollowed := true, recurses := true, apart := false, narrowed := true }
def ThingOneUptoSaid : Prop := thingOneUptoRow.holds Try.pinned (OpenSpec.upto thingOneSpec)

/-- 'rialtolaw16.ThingTells', WHERE WHAT IT READS IS OF BULK AT MOST 1048576: true; the input reads as it did. -/
def thingTellsUptoRow : OpenClaim := { program := "ytnegedbjcjfndaa", sum := "b7433eb7ab78071e2635b7fafbb6869440d6ba33e4e4b17e71bf921603ae5bb8", func := "rialto/rialtolaw16.ThingTells", spec := "thingTells", unfollowed := true, recurses := true, apart := false, narrowed := true }
def ThingTellsUptoSaid : Prop := thingTellsUptoRow.holds Try.pinned (OpenSpec.upto thingTellsSpec)

/-- 'rialtolaw16.ThingStays', WHERE WHAT IT READS IS OF BULK AT MOST 1048576: true; the input reads as it did. -/
def thingStaysUptoRow : OpenClaim := { program := "ytnegedbjcjfndaa", sum := "b7433eb7ab78071e2635b7fafbb6869440d6ba33e4e4b17e71bf921603ae5bb8", func := "rialto/rialtolaw16.ThingStays", spec := "thingStays", unfollowed := true, recurses := true, apart := false, narrowed := true }
def ThingStaysUptoSaid : Prop := thingStaysUptoRow.holds Try.pinned (OpenSpec.upto thingStaysSpec)

end Rows
end Go.Proofs.Ytnegedbjcjfndaa
