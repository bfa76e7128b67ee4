/-
  DERIVED. GIVEN WITH THE SEED: THE CARDS: each row of YtlhheknhkjcffaaDoorRows.lean that lists a variable, with what it lists TIED to the program's text (the seventh form; the later family's looks); each row that meets fmt, with fmt's text TOLD by the authors' own Lean function (tested against real Go, not proved from fmt's source: count such statements apart). THE CARD IS WHAT COUNTS. Prove the row's statement (the work); the ties are given (YtlhheknhkjcffaaDoorTie.lean); close each card by the builder's one call (the guide's Derived/Test/ToyasCard.lean, 'card_holds'). Laid BY PROGRAM, IN A SANDBOX (cutbox-door.mjs). By AI agents, Wed Nov 11 2026. No macro, syntax, notation, axiom, sorry.
-/
import Derived.Test.YtlhheknhkjcffaaDoorRows
import GoSem.ClaimSeven
namespace Go.Proofs.YtlhheknhkjcffaaDoor
namespace Rows

/-- THE TIED CARD OF 'sakialaw05.GroupMakes'. -/
def groupMakesCard : Claim7 := { stood := { row := groupMakesRow, standIns := [], harness := (true, "036288393b381ca91df6791f0f62ade098105d97384214b26ad69db75f29364e"), looks := false }, kinds := [], alts := [], laidByText := true, laidKinds := [.data], laidTests := true, laidLooks := .later }
def GroupMakesCardSaid : Prop := Claim7.holds Tryd.pinned (.plain (OpenSpec.ofChange groupMakesSpec)) groupMakesCard

/-- THE TIED CARD OF 'sakialaw05.GroupWalks'. -/
def groupWalksCard : Claim7 := { stood := { row := groupWalksRow, standIns := [], harness := (true, "036288393b381ca91df6791f0f62ade098105d97384214b26ad69db75f29364e"), looks := false }, kinds := [], alts := [], laidByText := true, laidKinds := [.data], laidTests := true, laidLooks := .later }
def GroupWalksCardSaid : Prop := Claim7.holds Tryd.pinned (.plain (OpenSpec.ofChange groupWalksSpec)) groupWalksCard

/-- THE TIED CARD OF 'sakialaw05.GroupParts'. -/
def groupPartsCard : Claim7 := { stood := { row := groupPartsRow, standIns := [], harness := (true, "036288393b381ca91df6791f0f62ade098105d97384214b26ad69db75f29364e"), looks := false }, kinds := [], alts := [], laidByText := true, laidKinds := [.data], laidTests := true, laidLooks := .later }
def GroupPartsCardSaid : Prop := Claim7.holds Tryd.pinned (.plain (OpenSpec.ofChange groupPartsSpec)) groupPartsCard

/-- THE TIED CARD OF 'sakialaw05.GroupTells'. -/
def groupTellsCard : Claim7 := { stood := { row := groupTellsRow, standIns := [], harness := (true, "036288393b381ca91df6791f0f62ade098105d97384214b26ad69db75f29364e"), looks := false }, kinds := [], alts := [], laidByText := true, laidKinds := [.data], laidTests := true, laidLooks := .later }
def GroupTellsCardSaid : Prop := Claim7.holds Tryd.pinned (.plain (OpenSpec.ofChange groupTellsSpec)) groupTellsCard

/-- THE SECOND FORM's CARD OF 'sakialaw05.GroupMakes'. -/
def groupMakesUptoCard : Claim7 := { stood := { row := groupMakesUptoRow, standIns := [], harness := (true, "036288393b381ca91df6791f0f62ade098105d97384214b26ad69db75f29364e"), looks := false }, kinds := [], alts := [], laidByText := true, laidKinds := [.data], laidTests := true, laidLooks := .later }
def GroupMakesUptoCardSaid : Prop := Claim7.holds Tryd.pinned (.plain (OpenSpec.upto groupMakesSpec)) groupMakesUptoCard

/-- THE SECOND FORM's CARD OF 'sakialaw05.GroupWalks'. -/
def groupWalksUptoCard : Claim7 := { stood := { row := groupWalksUptoRow, standIns := [], harness := (true, "036288393b381ca91df6791f0f62ade098105d97384214b26ad69db75f29364e"), looks := false }, kinds := [], alts := [], laidByText := true, laidKinds := [.data], laidTests := true, laidLooks := .later }
def GroupWalksUptoCardSaid : Prop := Claim7.holds Tryd.pinned (.plain (OpenSpec.upto groupWalksSpec)) groupWalksUptoCard

/-- THE SECOND FORM's CARD OF 'sakialaw05.GroupParts'. -/
def groupPartsUptoCard : Claim7 := { stood := { row := groupPartsUptoRow, standIns := [], harness := (true, "036288393b381ca91df6791f0f62ade098105d97384214b26ad69db75f29364e"), looks := false }, kinds := [], alts := [], laidByText := true, laidKinds := [.data], laidTests := true, laidLooks := .later }
def GroupPartsUptoCardSaid : Prop := Claim7.holds Tryd.pinned (.plain (OpenSpec.upto groupPartsSpec)) groupPartsUptoCard

/-- THE SECOND FORM's CARD OF 'sakialaw05.GroupTells'. -/
def groupTellsUptoCard : Claim7 := { stood := { row := groupTellsUptoRow, standIns := [], harness := (true, "036288393b381ca91df6791f0f62ade098105d97384214b26ad69db75f29364e"), looks := false }, kinds := [], alts := [], laidByText := true, laidKinds := [.data], laidTests := true, laidLooks := .later }
def GroupTellsUptoCardSaid : Prop := Claim7.holds Tryd.pinned (.plain (OpenSpec.upto groupTellsSpec)) groupTellsUptoCard
end Rows
end Go.Proofs.YtlhheknhkjcffaaDoor
