/-
  DERIVED. GIVEN WITH THE SEED: THE CARDS: each row of YtmpngedfnheilaaDoorRows.lean that lists a variable, with what it lists TIED to the program's text (the seventh form; the later family's looks); each row that meets fmt, with fmt's text TOLD by the authors' own Lean function (tested against real Go, not proved from fmt's source: count such statements apart). THE CARD IS WHAT COUNTS. Prove the row's statement (the work); the ties are given (YtmpngedfnheilaaDoorTie.lean); close each card by the builder's one call (the guide's Derived/Test/ToyasCard.lean, 'card_holds'). Laid BY PROGRAM, IN A SANDBOX (cutbox-door.mjs). By AI agents, Wed Nov 11 2026. No macro, syntax, notation, axiom, sorry.
-/
import Derived.Test.YtmpngedfnheilaaDoorRows
import GoSem.ClaimSeven
namespace Go.Proofs.YtmpngedfnheilaaDoor
namespace Rows

/-- THE TIED CARD OF 'haversacklaw18.ViewRises'. -/
def viewRisesCard : Claim7 := { stood := { row := viewRisesRow, standIns := [], harness := (true, "44b5dee480ea28a70d43388ed538a5ad41f155122df4bf3e63730d2fc2941bfd"), looks := false }, kinds := [], alts := [], laidByText := true, laidKinds := [.data, .pinned], laidTests := true, laidLooks := .later }
def ViewRisesCardSaid : Prop := Claim7.holds Tryd.pinned (.plain (OpenSpec.ofChange viewRisesSpec)) viewRisesCard

/-- THE TIED CARD OF 'haversacklaw18.ViewWhole'. -/
def viewWholeCard : Claim7 := { stood := { row := viewWholeRow, standIns := [], harness := (true, "44b5dee480ea28a70d43388ed538a5ad41f155122df4bf3e63730d2fc2941bfd"), looks := false }, kinds := [], alts := [], laidByText := true, laidKinds := [.data, .pinned], laidTests := true, laidLooks := .later }
def ViewWholeCardSaid : Prop := Claim7.holds Tryd.pinned (.plain (OpenSpec.ofChange viewWholeSpec)) viewWholeCard

/-- THE TIED CARD OF 'haversacklaw18.ViewPlays'. -/
def viewPlaysCard : Claim7 := { stood := { row := viewPlaysRow, standIns := [], harness := (true, "44b5dee480ea28a70d43388ed538a5ad41f155122df4bf3e63730d2fc2941bfd"), looks := false }, kinds := [], alts := [], laidByText := true, laidKinds := [.data, .pinned], laidTests := true, laidLooks := .later }
def ViewPlaysCardSaid : Prop := Claim7.holds Tryd.pinned (.plain (OpenSpec.ofChange viewPlaysSpec)) viewPlaysCard

/-- THE TIED CARD OF 'haversacklaw18.ViewNil'. -/
def viewNilCard : Claim7 := { stood := { row := viewNilRow, standIns := [], harness := (true, "44b5dee480ea28a70d43388ed538a5ad41f155122df4bf3e63730d2fc2941bfd"), looks := false }, kinds := [], alts := [], laidByText := true, laidKinds := [.data, .pinned], laidTests := true, laidLooks := .later }
def ViewNilCardSaid : Prop := Claim7.holds Tryd.pinned (.plain (OpenSpec.ofChange viewNilSpec)) viewNilCard

/-- THE TIED CARD OF 'haversacklaw18.ViewTells'. -/
def viewTellsCard : Claim7 := { stood := { row := viewTellsRow, standIns := [], harness := (true, "44b5dee480ea28a70d43388ed538a5ad41f155122df4bf3e63730d2fc2941bfd"), looks := false }, kinds := [], alts := [], laidByText := true, laidKinds := [.data, .pinned], laidTests := true, laidLooks := .later }
def ViewTellsCardSaid : Prop := Claim7.holds Tryd.pinned (.plain (OpenSpec.ofChange viewTellsSpec)) viewTellsCard

/-- THE TIED CARD OF 'haversacklaw18.ViewFollows'. -/
def viewFollowsCard : Claim7 := { stood := { row := viewFollowsRow, standIns := [], harness := (true, "44b5dee480ea28a70d43388ed538a5ad41f155122df4bf3e63730d2fc2941bfd"), looks := false }, kinds := [], alts := [], laidByText := true, laidKinds := [.data, .pinned], laidTests := true, laidLooks := .later }
def ViewFollowsCardSaid : Prop := Claim7.holds Tryd.pinned (.plain (OpenSpec.ofChange viewFollowsSpec)) viewFollowsCard

/-- THE SECOND FORM's CARD OF 'haversacklaw18.ViewRises'. -/
def viewRisesUptoCard : Claim7 := { stood := { row := viewRisesUptoRow, standIns := [], harness := (true, "44b5dee480ea28a70d43388ed538a5ad41f155122df4bf3e63730d2fc2941bfd"), looks := false }, kinds := [], alts := [], laidByText := true, laidKinds := [.data, .pinned], laidTests := true, laidLooks := .later }
def ViewRisesUptoCardSaid : Prop := Claim7.holds Tryd.pinned (.plain (OpenSpec.upto viewRisesSpec)) viewRisesUptoCard

/-- THE SECOND FORM's CARD OF 'haversacklaw18.ViewWhole'. -/
def viewWholeUptoCard : Claim7 := { stood := { row := viewWholeUptoRow, standIns := [], harness := (true, "44b5dee480ea28a70d43388ed538a5ad41f155122df4bf3e63730d2fc2941bfd"), looks := false }, kinds := [], alts := [], laidByText := true, laidKinds := [.data, .pinned], laidTests := true, laidLooks := .later }
def ViewWholeUptoCardSaid : Prop := Claim7.holds Tryd.pinned (.plain (OpenSpec.upto viewWholeSpec)) viewWholeUptoCard

/-- THE SECOND FORM's CARD OF 'haversacklaw18.ViewPlays'. -/
def viewPlaysUptoCard : Claim7 := { stood := { row := viewPlaysUptoRow, standIns := [], harness := (true, "44b5dee480ea28a70d43388ed538a5ad41f155122df4bf3e63730d2fc2941bfd"), looks := false }, kinds := [], alts := [], laidByText := true, laidKinds := [.data, .pinned], laidTests := true, laidLooks := .later }
def ViewPlaysUptoCardSaid : Prop := Claim7.holds Tryd.pinned (.plain (OpenSpec.upto viewPlaysSpec)) viewPlaysUptoCard

/-- THE SECOND FORM's CARD OF 'haversacklaw18.ViewNil'. -/
def viewNilUptoCard : Claim7 := { stood := { row := viewNilUptoRow, standIns := [], harness := (true, "44b5dee480ea28a70d43388ed538a5ad41f155122df4bf3e63730d2fc2941bfd"), looks := false }, kinds := [], alts := [], laidByText := true, laidKinds := [.data, .pinned], laidTests := true, laidLooks := .later }
def ViewNilUptoCardSaid : Prop := Claim7.holds Tryd.pinned (.plain (OpenSpec.upto viewNilSpec)) viewNilUptoCard

/-- THE SECOND FORM's CARD OF 'haversacklaw18.ViewTells'. -/
def viewTellsUptoCard : Claim7 := { stood := { row := viewTellsUptoRow, standIns := [], harness := (true, "44b5dee480ea28a70d43388ed538a5ad41f155122df4bf3e63730d2fc2941bfd"), looks := false }, kinds := [], alts := [], laidByText := true, laidKinds := [.data, .pinned], laidTests := true, laidLooks := .later }
def ViewTellsUptoCardSaid : Prop := Claim7.holds Tryd.pinned (.plain (OpenSpec.upto viewTellsSpec)) viewTellsUptoCard

/-- THE SECOND FORM's CARD OF 'haversacklaw18.ViewFollows'. -/
def viewFollowsUptoCard : Claim7 := { stood := { row := viewFollowsUptoRow, standIns := [], harness := (true, "44b5dee480ea28a70d43388ed538a5ad41f155122df4bf3e63730d2fc2941bfd"), looks := false }, kinds := [], alts := [], laidByText := true, laidKinds := [.data, .pinned], laidTests := true, laidLooks := .later }
def ViewFollowsUptoCardSaid : Prop := Claim7.holds Tryd.pinned (.plain (OpenSpec.upto viewFollowsSpec)) viewFollowsUptoCard
end Rows
end Go.Proofs.YtmpngedfnheilaaDoor
