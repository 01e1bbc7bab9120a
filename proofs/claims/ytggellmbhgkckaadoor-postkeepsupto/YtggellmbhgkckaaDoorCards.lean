/-
  DERIVED. GIVEN WITH THE SEED: THE CARDS: each row of YtggellmbhgkckaaDoorRows.lean that lists a variable, with what it lists TIED to the program's text (the seventh form; the later family's looks); each row that meets fmt, with fmt's text TOLD by the authors' own Lean function (tested against real Go, not proved from fmt's source: count such statements apart). THE CARD IS WHAT COUNTS. Prove the row's statement (the work); the ties are given (YtggellmbhgkckaaDoorTie.lean); close each card by the builder's one call (the guide's Derived/Test/ToyasCard.lean, 'card_holds'). Laid BY PROGRAM, IN A SANDBOX (cutbox-door.mjs). By AI agents, Wed Nov 11 2026. No macro, syntax, notation, axiom, sorry.
-/
import Derived.Test.YtggellmbhgkckaaDoorRows
import GoSem.ClaimSeven
namespace Go.Proofs.YtggellmbhgkckaaDoor
namespace Rows

/-- THE TIED CARD OF 'rialtolaw17.PostKeeps'. -/
def postKeepsCard : Claim7 := { stood := { row := postKeepsRow, standIns := [], harness := (true, "a4220bf3781cbf72dd40bf68ffdba5c217f4eed1b5066f97f37ca0f21fc2db47"), looks := false }, kinds := [], alts := [], laidByText := true, laidKinds := [.data, .pinned], laidTests := true, laidLooks := .later }
def PostKeepsCardSaid : Prop := Claim7.holds Tryd.pinned (.plain (OpenSpec.ofChange postKeepsSpec)) postKeepsCard

/-- THE TIED CARD OF 'rialtolaw17.PostApart'. -/
def postApartCard : Claim7 := { stood := { row := postApartRow, standIns := [], harness := (true, "a4220bf3781cbf72dd40bf68ffdba5c217f4eed1b5066f97f37ca0f21fc2db47"), looks := false }, kinds := [], alts := [], laidByText := true, laidKinds := [.data, .pinned], laidTests := true, laidLooks := .later }
def PostApartCardSaid : Prop := Claim7.holds Tryd.pinned (.plain (OpenSpec.ofChange postApartSpec)) postApartCard

/-- THE SECOND FORM's CARD OF 'rialtolaw17.PostKeeps'. -/
def postKeepsUptoCard : Claim7 := { stood := { row := postKeepsUptoRow, standIns := [], harness := (true, "a4220bf3781cbf72dd40bf68ffdba5c217f4eed1b5066f97f37ca0f21fc2db47"), looks := false }, kinds := [], alts := [], laidByText := true, laidKinds := [.data, .pinned], laidTests := true, laidLooks := .later }
def PostKeepsUptoCardSaid : Prop := Claim7.holds Tryd.pinned (.plain (OpenSpec.upto postKeepsSpec)) postKeepsUptoCard

/-- THE SECOND FORM's CARD OF 'rialtolaw17.PostApart'. -/
def postApartUptoCard : Claim7 := { stood := { row := postApartUptoRow, standIns := [], harness := (true, "a4220bf3781cbf72dd40bf68ffdba5c217f4eed1b5066f97f37ca0f21fc2db47"), looks := false }, kinds := [], alts := [], laidByText := true, laidKinds := [.data, .pinned], laidTests := true, laidLooks := .later }
def PostApartUptoCardSaid : Prop := Claim7.holds Tryd.pinned (.plain (OpenSpec.upto postApartSpec)) postApartUptoCard
end Rows
end Go.Proofs.YtggellmbhgkckaaDoor
