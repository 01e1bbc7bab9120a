/-
  No cell of these rows narrows 'for every input' (looked for: loops, veiled, ifaces, maps, wideKeys, modest, calm, conditions, laid).
  DERIVED. THE GIVEN ROWS OF THIS SEAT. 2 by the template 'for every input the law returns true; each argument reads behind the call as it read before'; 0 by the template 'total and deterministic' (their statements: YtlgieadebfdppaaTotals.lean).
  GIVEN WITH THE SEED: the statements are not yours to turn. If you find one false, say at which input.
  Laid BY PROGRAM, IN A SANDBOX (cutbox-rows.mjs): the forced cells as the released guide's own fill.sh prints them over the translation f334ff5ed5b2e5a0… (all of the seat's roots in one cut). By AI agents, Wed Nov 11 2026. No macro, syntax, notation, axiom, sorry.
-/
import Derived.Test.YtlgieadebfdppaaChecked
import GoSem.Claim
import GoSem.ClaimJoined
import GoSem.ClaimMapViews
import Derived.JoinedTies
import Derived.KernelRfl
namespace Go.Proofs.Ytlgieadebfdppaa
/- THE CELL 'sum', in the pinned program and in every row, IS THE sha256 OF THE DUMP (.gsa) THAT YtlgieadebfdppaaProg.lean LOADS. Nothing in Lean hashes anything: it is a label: what it is worth is what the hold of that sum in a sandbox is worth. -/
noncomputable def Try.pinned : Pinned := { name := "ytlgieadebfdppaa", sum := "f334ff5ed5b2e5a07889b133e11664970075f83a1102993148dd2998b71d2fe5", checked := Try.checked }
namespace Rows
def none {H : Type} : Left H := { results := [], args := [] }

/-- 'rialtolaw18.TradeHolds': WHATEVER THE INPUT: true; the input reads as it did. -/
def tradeHoldsSpec : ChangeSpec := { name := "tradeHolds", fn := fun _ => fun
  | [d1, d2, d3, d4] => { results := [.lit (.bool true)], args := [d1, d2, d3, d4] }
  | _ => none }
def tradeHoldsRow : OpenClaim := { program := "ytlgieadebfdppaa", sum := "f334ff5ed5b2e5a07889b133e11664970075f83a1102993148dd2998b71d2fe5", func := "rialto/rialtolaw18.TradeHolds", spec := "tradeHolds", inPlace := ["math/bits.Add64"], unfollowed := true, recurses := true, apart := false }
def TradeHoldsSaid : Prop := tradeHoldsRow.holds Try.pinned (OpenSpec.ofChange tradeHoldsSpec)

/-- ITS FALSE NEIGHBOUR: 'it returns false'. Refute it at one input. -/
def tradeHoldsWrong : ChangeSpec := { name := "tradeHolds", fn := fun _ => fun
  | [d1, d2, d3, d4] => { results := [.lit (.bool false)], args := [d1, d2, d3, d4] }
  | _ => none }
def TradeHoldsWrongFalsely : Prop := tradeHoldsRow.holds Try.pinned (OpenSpec.ofChange tradeHoldsWrong)

/-- 'rialtolaw18.TradeTwo': WHATEVER THE INPUT: true; the input reads as it did. -/
def tradeTwoSpec : ChangeSpec := { name := "tradeTwo", fn := fun _ => fun
  | [d] => { results := [.lit (.bool true)], args := [d] }
  | _ => none }
def tradeTwoRow : OpenClaim := { program := "ytlgieadebfdppaa", sum := "f334ff5ed5b2e5a07889b133e11664970075f83a1102993148dd2998b71d2fe5", func := "rialto/rialtolaw18.TradeTwo", spec := "tradeTwo", inPlace := ["math/bits.Add64"], unfollowed := true, recurses := true, apart := false }
def TradeTwoSaid : Prop := tradeTwoRow.holds Try.pinned (OpenSpec.ofChange tradeTwoSpec)

/-- ITS FALSE NEIGHBOUR: 'it returns false'. Refute it at one input. -/
def tradeTwoWrong : ChangeSpec := { name := "tradeTwo", fn := fun _ => fun
  | [d] => { results := [.lit (.bool false)], args := [d] }
  | _ => none }
def TradeTwoWrongFalsely : Prop := tradeTwoRow.holds Try.pinned (OpenSpec.ofChange tradeTwoWrong)

/- THE SECOND FORM. 'bulk': how many values and letters a reading holds, each counted each time it is reached (what is shared counts as often as it is met; a slice's spare places count too). A statement '..UptoSaid' is the law's where the arguments, and the package variables that the reading takes, are together of bulk at most 1048576: NARROWER than '..Said'. Prove '..Said' where nothing that the law and all that it calls make is longer than what came in: it says more and counts as full. Else prove '..UptoSaid'. A law counts once. -/
mutual
def uptoBulk {H : Type} : DataW H → Nat
  | .lit (.string bytes) => bytes.length + 1
  | .lit _ => 1
  | .nil => 1
  | .ptr d => uptoBulk d + 1
  | .slice elems spare => uptoBulkAll elems + uptoBulkAll spare + 1
  | .agg parts => uptoBulkAll parts + 1
  | .iface _ d => uptoBulk d + 1
  | .map entries => uptoBulkEntries entries + 1
  | .held _ => 1
def uptoBulkAll {H : Type} : List (DataW H) → Nat
  | [] => 0
  | d :: r => uptoBulk d + uptoBulkAll r
def uptoBulkEntries {H : Type} : List (Lit × DataW H) → Nat
  | [] => 0
  | x :: r => uptoBulkEntry x + uptoBulkEntries r
def uptoBulkEntry {H : Type} : Lit × DataW H → Nat
  | (.string bytes, d) => bytes.length + uptoBulk d + 1
  | (_, d) => uptoBulk d + 1
 end
def uptoSmall : (H : Type) → List (DataW H) → Bool := fun _ ds => decide (uptoBulkAll ds ≤ 1048576)
def OpenSpec.upto (s : _root_.Go.ChangeSpec) : _root_.Go.OpenSpec := { _root_.Go.OpenSpec.ofChange s with cond := some uptoSmall }

/-- 'rialtolaw18.TradeHolds', WHERE WHAT IT READS IS OF BULK AT MOST 1048576: true; the input reads as it did. -/
def tradeHoldsUptoRow : OpenClaim := { program := "ytlgieadebfdppaa", sum := "f334ff5ed5b2e5a07889b133e11664970075f83a1102993148dd2998b71d2fe5", func := "rialto/rialtolaw18.TradeHolds", spec := "tradeHolds", inPlace := ["math/bits.Add64"], unfollowed := true, recurses := true, apart := false, narrowed := true }
def TradeHoldsUptoSaid : Prop := tradeHoldsUptoRow.holds Try.pinned (OpenSpec.upto tradeHoldsSpec)

/-- 'rialtolaw18.TradeTwo', WHERE WHAT IT READS IS OF BULK AT MOST 1048576: true; the input reads as it did. -/
def tradeTwoUptoRow : OpenClaim := { program := "ytlgieadebfdppaa", sum := "f334ff5ed5b2e5a07889b133e11664970075f83a1102993148dd2998b71d2fe5", func := "rialto/rialtolaw18.TradeTwo", spec := "tradeTwo", inPlace := ["math/bits.Add64"], unfollowed := true, recurses := true, apart := false, narrowed := true }
def TradeTwoUptoSaid : Prop := tradeTwoUptoRow.holds Try.pinned (OpenSpec.upto tradeTwoSpec)

end Rows
end Go.Proofs.Ytlgieadebfdppaa
