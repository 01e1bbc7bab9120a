/-
  DERIVED. GIVEN WITH THE SEED: THE CARDS: each row of YtniombjfbdojjaaDoorRows.lean that lists a variable, with what it lists TIED to the program's text (the seventh form; the later family's looks); each row that meets fmt, with fmt's text TOLD by the authors' own Lean function (tested against real Go, not proved from fmt's source: count such statements apart). THE CARD IS WHAT COUNTS. Prove the row's statement (the work); the ties are given (YtniombjfbdojjaaDoorTie.lean); close each card by the builder's one call (the guide's Derived/Test/ToyasCard.lean, 'card_holds'). Laid BY PROGRAM, IN A SANDBOX (cutbox-door.mjs). By AI agents, Wed Nov 11 2026. No macro, syntax, notation, axiom, sorry.
-/
import Derived.Test.YtniombjfbdojjaaDoorRows
import GoSem.ClaimSeven
namespace Go.Proofs.YtniombjfbdojjaaDoor
namespace Rows

/-- THE TIED CARD OF 'rialtolaw03.NameTells'. -/
def nameTellsCard : Claim7 := { stood := { row := nameTellsRow, standIns := [], harness := (true, "241978396e72280fce55b2e6c76274ba43099d0400bd10564f5e65995534bcda"), looks := false }, kinds := [], alts := [], laidByText := true, laidKinds := [.data, .pinned], laidTests := true, laidLooks := .later }
def NameTellsCardSaid : Prop := Claim7.holds Tryd.pinned (.plain (OpenSpec.ofChange nameTellsSpec)) nameTellsCard

/-- THE TIED CARD OF 'rialtolaw03.NameLists'. -/
def nameListsCard : Claim7 := { stood := { row := nameListsRow, standIns := [], harness := (true, "241978396e72280fce55b2e6c76274ba43099d0400bd10564f5e65995534bcda"), looks := false }, kinds := [], alts := [], laidByText := true, laidKinds := [.data, .pinned], laidTests := true, laidLooks := .later }
def NameListsCardSaid : Prop := Claim7.holds Tryd.pinned (.plain (OpenSpec.ofChange nameListsSpec)) nameListsCard

/-- THE TIED CARD OF 'rialtolaw03.NameClean'. -/
def nameCleanCard : Claim7 := { stood := { row := nameCleanRow, standIns := [], harness := (true, "241978396e72280fce55b2e6c76274ba43099d0400bd10564f5e65995534bcda"), looks := false }, kinds := [], alts := [], laidByText := true, laidKinds := [.data, .pinned], laidTests := true, laidLooks := .later }
def NameCleanCardSaid : Prop := Claim7.holds Tryd.pinned (.plain (OpenSpec.ofChange nameCleanSpec)) nameCleanCard

/-- THE SECOND FORM's CARD OF 'rialtolaw03.NameTells'. -/
def nameTellsUptoCard : Claim7 := { stood := { row := nameTellsUptoRow, standIns := [], harness := (true, "241978396e72280fce55b2e6c76274ba43099d0400bd10564f5e65995534bcda"), looks := false }, kinds := [], alts := [], laidByText := true, laidKinds := [.data, .pinned], laidTests := true, laidLooks := .later }
def NameTellsUptoCardSaid : Prop := Claim7.holds Tryd.pinned (.plain (OpenSpec.upto nameTellsSpec)) nameTellsUptoCard

/-- THE SECOND FORM's CARD OF 'rialtolaw03.NameLists'. -/
def nameListsUptoCard : Claim7 := { stood := { row := nameListsUptoRow, standIns := [], harness := (true, "241978396e72280fce55b2e6c76274ba43099d0400bd10564f5e65995534bcda"), looks := false }, kinds := [], alts := [], laidByText := true, laidKinds := [.data, .pinned], laidTests := true, laidLooks := .later }
def NameListsUptoCardSaid : Prop := Claim7.holds Tryd.pinned (.plain (OpenSpec.upto nameListsSpec)) nameListsUptoCard

/-- THE SECOND FORM's CARD OF 'rialtolaw03.NameClean'. -/
def nameCleanUptoCard : Claim7 := { stood := { row := nameCleanUptoRow, standIns := [], harness := (true, "241978396e72280fce55b2e6c76274ba43099d0400bd10564f5e65995534bcda"), looks := false }, kinds := [], alts := [], laidByText := true, laidKinds := [.data, .pinned], laidTests := true, laidLooks := .later }
def NameCleanUptoCardSaid : Prop := Claim7.holds Tryd.pinned (.plain (OpenSpec.upto nameCleanSpec)) nameCleanUptoCard
end Rows
end Go.Proofs.YtniombjfbdojjaaDoor
