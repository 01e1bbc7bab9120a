/-
  No cell of these rows narrows 'for every input' (looked for: loops, veiled, ifaces, maps, wideKeys, modest, calm, conditions, laid).
  DERIVED. THE GIVEN ROWS OF THIS SEAT. 3 by the template 'for every input the law returns true; each argument reads behind the call as it read before'; 0 by the template 'total and deterministic' (their statements: YtdgphkifajcejaaTotals.lean).
  GIVEN WITH THE SEED: the statements are not yours to turn. If you find one false, say at which input.
  Laid BY PROGRAM, IN A SANDBOX (cutbox-rows.mjs): the forced cells as the released guide's own fill.sh prints them over the translation 6eff0c7bde4af623… (all of the seat's roots in one cut). By AI agents, Wed Nov 11 2026. No macro, syntax, notation, axiom, sorry.
-/
import Derived.Test.YtdgphkifajcejaaChecked
import GoSem.Claim
import GoSem.ClaimJoined
import GoSem.ClaimMapViews
import Derived.JoinedTies
import Derived.KernelRfl
namespace Go.Proofs.Ytdgphkifajcejaa
/- THE CELL 'sum', in the pinned program and in every row, IS THE sha256 OF THE DUMP (.gsa) THAT YtdgphkifajcejaaProg.lean LOADS. Nothing in Lean hashes anything: it is a label: what it is worth is what the hold of that sum in a sandbox is worth. -/
noncomputable def Try.pinned : Pinned := { name := "ytdgphkifajcejaa", sum := "6eff0c7bde4af623112152afd08409d68b1835b0619a64c419fc424c6ed9be6a", checked := Try.checked }
namespace Rows
def none {H : Type} : Left H := { results := [], args := [] }

/-- 'rialtolaw06.QuotaTells': WHATEVER THE INPUT: true; the input reads as it did. -/
def quotaTellsSpec : ChangeSpec := { name := "quotaTells", fn := fun _ => fun
  | [d1, d2, d3] => { results := [.lit (.bool true)], args := [d1, d2, d3] }
  | _ => none }
def quotaTellsRow : OpenClaim := { program := "ytdgphkifajcejaa", sum := "6eff0c7bde4af623112152afd08409d68b1835b0619a64c419fc424c6ed9be6a", func := "rialto/rialtolaw06.QuotaTells", spec := "quotaTells", unfollowed := true, recurses := true, apart := false }
def QuotaTellsSaid : Prop := quotaTellsRow.holds Try.pinned (OpenSpec.ofChange quotaTellsSpec)

/-- ITS FALSE NEIGHBOUR: 'it returns false'. Refute it at one input. -/
def quotaTellsWrong : ChangeSpec := { name := "quotaTells", fn := fun _ => fun
  | [d1, d2, d3] => { results := [.lit (.bool false)], args := [d1, d2, d3] }
  | _ => none }
def QuotaTellsWrongFalsely : Prop := quotaTellsRow.holds Try.pinned (OpenSpec.ofChange quotaTellsWrong)

/-- 'rialtolaw06.QuotaFills': WHATEVER THE INPUT: true; the input reads as it did. -/
def quotaFillsSpec : ChangeSpec := { name := "quotaFills", fn := fun _ => fun
  | [d1, d2] => { results := [.lit (.bool true)], args := [d1, d2] }
  | _ => none }
def quotaFillsRow : OpenClaim := { program := "ytdgphkifajcejaa", sum := "6eff0c7bde4af623112152afd08409d68b1835b0619a64c419fc424c6ed9be6a", func := "rialto/rialtolaw06.QuotaFills", spec := "quotaFills", unfollowed := true, recurses := true, apart := false }
def QuotaFillsSaid : Prop := quotaFillsRow.holds Try.pinned (OpenSpec.ofChange quotaFillsSpec)

/-- ITS FALSE NEIGHBOUR: 'it returns false'. Refute it at one input. -/
def quotaFillsWrong : ChangeSpec := { name := "quotaFills", fn := fun _ => fun
  | [d1, d2] => { results := [.lit (.bool false)], args := [d1, d2] }
  | _ => none }
def QuotaFillsWrongFalsely : Prop := quotaFillsRow.holds Try.pinned (OpenSpec.ofChange quotaFillsWrong)

/-- 'rialtolaw06.QuotaNames': WHATEVER THE INPUT: true; the input reads as it did. -/
def quotaNamesSpec : ChangeSpec := { name := "quotaNames", fn := fun _ => fun
  | [d1, d2, d3] => { results := [.lit (.bool true)], args := [d1, d2, d3] }
  | _ => none }
def quotaNamesRow : OpenClaim := { program := "ytdgphkifajcejaa", sum := "6eff0c7bde4af623112152afd08409d68b1835b0619a64c419fc424c6ed9be6a", func := "rialto/rialtolaw06.QuotaNames", spec := "quotaNames", unfollowed := true, recurses := true, apart := false }
def QuotaNamesSaid : Prop := quotaNamesRow.holds Try.pinned (OpenSpec.ofChange quotaNamesSpec)

/-- ITS FALSE NEIGHBOUR: 'it returns false'. Refute it at one input. -/
def quotaNamesWrong : ChangeSpec := { name := "quotaNames", fn := fun _ => fun
  | [d1, d2, d3] => { results := [.lit (.bool false)], args := [d1, d2, d3] }
  | _ => none }
def QuotaNamesWrongFalsely : Prop := quotaNamesRow.holds Try.pinned (OpenSpec.ofChange quotaNamesWrong)

/- THE SECOND FORM. 'bulk': how many values and letters a reading holds, each counted each time it is reached (what is shared counts as often as it is met; a slice's spare places count too). A statement '..UptoSaid' is the law's where the arguments, and the package variables that the reading takes, are together of bulk at most 1048576: NARROWER than '..Said'. Prove '..Said' where nothing that the law and all that it calls make is longer than what came in: it says more and counts as full. Else prove '..UptoSaid'. A law counts once. -/
mutual
def uptoBulk {H : Type} : DataW H → Nat
  | .lit (.string bytes) => bytes.length + 1
  | .lit _ => 1
  | .nil => 1
  | .ptr d => uptoBulk d + 1
  | .slice elems spare => uptoBulkAll elems + uptoBulkAll spare + 1
  | .agg parts => uptoBulkAll parts + 1
  | .iface _ d => uptoBulk d + 1
  | .map entries => uptoBulkEntries entries + 1
  | .held _ => 1
def uptoBulkAll {H : Type} : List (DataW H) → Nat
  | [] => 0
  | d :: r => uptoBulk d + uptoBulkAll r
def uptoBulkEntries {H : Type} : List (Lit × DataW H) → Nat
  | [] => 0
  | x :: r => uptoBulkEntry x + uptoBulkEntries r
def uptoBulkEntry {H : Type} : Lit × DataW H → Nat
  | (.string bytes, d) => bytes.length + uptoBulk d + 1
  | (_, d) => uptoBulk d + 1
 end
def uptoSmall : (H : Type) → List (DataW H) → Bool := fun _ ds => decide (uptoBulkAll ds ≤ 1048576)
def OpenSpec.upto (s : _root_.Go.ChangeSpec) : _root_.Go.OpenSpec := { _root_.Go.OpenSpec.ofChange s with cond := some uptoSmall }

/-- 'rialtolaw06.QuotaTells', WHERE WHAT IT READS IS OF BULK AT MOST 1048576: true; the input reads as it did. -/
def quotaTellsUptoRow : OpenClaim := { program := "ytdgphkifajcejaa", sum := "6eff0c7bde4af623112152afd08409d68b1835b0619a64c419fc424c6ed9be6a", func := "rialto/rialtolaw06.QuotaTells", spec := "quotaTells", unfollowed := true, recurses := true, apart := false, narrowed := true }
def QuotaTellsUptoSaid : Prop := quotaTellsUptoRow.holds Try.pinned (OpenSpec.upto quotaTellsSpec)

/-- 'rialtolaw06.QuotaFills', WHERE WHAT IT READS IS OF BULK AT MOST 1048576: true; the input reads as it did. -/
def quotaFillsUptoRow : OpenClaim := { program := "ytdgphkifajcejaa", sum := "6eff0c7bde4af623112152afd08409d68b1835b0619a64c419fc424c6ed9be6a", func := "rialto/rialtolaw06.QuotaFills", spec := "quotaFills", unfollowed := true, recurses := true, apart := false, narrowed := true }
def QuotaFillsUptoSaid : Prop := quotaFillsUptoRow.holds Try.pinned (OpenSpec.upto quotaFillsSpec)

/-- 'rialtolaw06.QuotaNames', WHERE WHAT IT READS IS OF BULK AT MOST 1048576: true; the input reads as it did. -/
def quotaNamesUptoRow : OpenClaim := { program := "ytdgphkifajcejaa", sum := "6eff0c7bde4af623112152afd08409d68b1835b0619a64c419fc424c6ed9be6a", func := "rialto/rialtolaw06.QuotaNames", spec := "quotaNames", unfollowed := true, recurses := true, apart := false, narrowed := true }
def QuotaNamesUptoSaid : Prop := quotaNamesUptoRow.holds Try.pinned (OpenSpec.upto quotaNamesSpec)

end Rows
end Go.Proofs.Ytdgphkifajcejaa
