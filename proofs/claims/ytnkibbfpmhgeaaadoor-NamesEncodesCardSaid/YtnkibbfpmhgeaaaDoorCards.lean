/-
  DERIVED. GIVEN WITH THE SEED: THE CARDS: each row of YtnkibbfpmhgeaaaDoorRows.lean that lists a variable, with what it lists TIED to the program's text (the seventh form; the later family's looks); each row that meets fmt, with fmt's text TOLD by the authors' own Lean function (tested against real Go, not proved from fmt's source: count such statements apart). THE CARD IS WHAT COUNTS. Prove the row's statement (the work); the ties are given (YtnkibbfpmhgeaaaDoorTie.lean); close each card by the builder's one call (the guide's Derived/Test/ToyasCard.lean, 'card_holds'). Laid BY PROGRAM, IN A SANDBOX (cutbox-door.mjs). By AI agents, Wed Nov 11 2026. No macro, syntax, notation, axiom, sorry.
-/
import Derived.Test.YtnkibbfpmhgeaaaDoorRows
import GoSem.ClaimSeven
namespace Go.Proofs.YtnkibbfpmhgeaaaDoor
namespace Rows

/-- THE TIED CARD OF 'haversacklaw07.NamesEncodes'. -/
def namesEncodesCard : Claim7 := { stood := { row := namesEncodesRow, standIns := [], harness := (true, "2ad86f03233743d64419f7cf21377bab17c86d335c377d97eadb784c28c57610"), looks := false }, kinds := [], alts := [], laidByText := true, laidKinds := [.data, .pinned], laidTests := true, laidLooks := .later }
def NamesEncodesCardSaid : Prop := Claim7.holds Tryd.pinned (.plain (OpenSpec.ofChange namesEncodesSpec)) namesEncodesCard

/-- THE TIED CARD OF 'haversacklaw07.NamesBack'. -/
def namesBackCard : Claim7 := { stood := { row := namesBackRow, standIns := [], harness := (true, "2ad86f03233743d64419f7cf21377bab17c86d335c377d97eadb784c28c57610"), looks := false }, kinds := [], alts := [], laidByText := true, laidKinds := [.data, .pinned], laidTests := true, laidLooks := .later }
def NamesBackCardSaid : Prop := Claim7.holds Tryd.pinned (.plain (OpenSpec.ofChange namesBackSpec)) namesBackCard

/-- THE TIED CARD OF 'haversacklaw07.NamesMoved'. -/
def namesMovedCard : Claim7 := { stood := { row := namesMovedRow, standIns := [], harness := (true, "2ad86f03233743d64419f7cf21377bab17c86d335c377d97eadb784c28c57610"), looks := false }, kinds := [], alts := [], laidByText := true, laidKinds := [.data, .pinned], laidTests := true, laidLooks := .later }
def NamesMovedCardSaid : Prop := Claim7.holds Tryd.pinned (.plain (OpenSpec.ofChange namesMovedSpec)) namesMovedCard

/-- THE TIED CARD OF 'haversacklaw07.NamesMatches'. -/
def namesMatchesCard : Claim7 := { stood := { row := namesMatchesRow, standIns := [], harness := (true, "2ad86f03233743d64419f7cf21377bab17c86d335c377d97eadb784c28c57610"), looks := false }, kinds := [], alts := [], laidByText := true, laidKinds := [.data, .pinned], laidTests := true, laidLooks := .later }
def NamesMatchesCardSaid : Prop := Claim7.holds Tryd.pinned (.plain (OpenSpec.ofChange namesMatchesSpec)) namesMatchesCard

/-- THE TIED CARD OF 'haversacklaw07.NamesStars'. -/
def namesStarsCard : Claim7 := { stood := { row := namesStarsRow, standIns := [], harness := (true, "2ad86f03233743d64419f7cf21377bab17c86d335c377d97eadb784c28c57610"), looks := false }, kinds := [], alts := [], laidByText := true, laidKinds := [.data, .pinned], laidTests := true, laidLooks := .later }
def NamesStarsCardSaid : Prop := Claim7.holds Tryd.pinned (.plain (OpenSpec.ofChange namesStarsSpec)) namesStarsCard

/-- THE TIED CARD OF 'haversacklaw07.NamesJudges'. -/
def namesJudgesCard : Claim7 := { stood := { row := namesJudgesRow, standIns := [], harness := (true, "2ad86f03233743d64419f7cf21377bab17c86d335c377d97eadb784c28c57610"), looks := false }, kinds := [], alts := [], laidByText := true, laidKinds := [.data, .pinned], laidTests := true, laidLooks := .later }
def NamesJudgesCardSaid : Prop := Claim7.holds Tryd.pinned (.plain (OpenSpec.ofChange namesJudgesSpec)) namesJudgesCard

/-- THE TIED CARD OF 'haversacklaw07.NamesParts'. -/
def namesPartsCard : Claim7 := { stood := { row := namesPartsRow, standIns := [], harness := (true, "2ad86f03233743d64419f7cf21377bab17c86d335c377d97eadb784c28c57610"), looks := false }, kinds := [], alts := [], laidByText := true, laidKinds := [.data, .pinned], laidTests := true, laidLooks := .later }
def NamesPartsCardSaid : Prop := Claim7.holds Tryd.pinned (.plain (OpenSpec.ofChange namesPartsSpec)) namesPartsCard

/-- THE SECOND FORM's CARD OF 'haversacklaw07.NamesEncodes'. -/
def namesEncodesUptoCard : Claim7 := { stood := { row := namesEncodesUptoRow, standIns := [], harness := (true, "2ad86f03233743d64419f7cf21377bab17c86d335c377d97eadb784c28c57610"), looks := false }, kinds := [], alts := [], laidByText := true, laidKinds := [.data, .pinned], laidTests := true, laidLooks := .later }
def NamesEncodesUptoCardSaid : Prop := Claim7.holds Tryd.pinned (.plain (OpenSpec.upto namesEncodesSpec)) namesEncodesUptoCard

/-- THE SECOND FORM's CARD OF 'haversacklaw07.NamesBack'. -/
def namesBackUptoCard : Claim7 := { stood := { row := namesBackUptoRow, standIns := [], harness := (true, "2ad86f03233743d64419f7cf21377bab17c86d335c377d97eadb784c28c57610"), looks := false }, kinds := [], alts := [], laidByText := true, laidKinds := [.data, .pinned], laidTests := true, laidLooks := .later }
def NamesBackUptoCardSaid : Prop := Claim7.holds Tryd.pinned (.plain (OpenSpec.upto namesBackSpec)) namesBackUptoCard

/-- THE SECOND FORM's CARD OF 'haversacklaw07.NamesMoved'. -/
def namesMovedUptoCard : Claim7 := { stood := { row := namesMovedUptoRow, standIns := [], harness := (true, "2ad86f03233743d64419f7cf21377bab17c86d335c377d97eadb784c28c57610"), looks := false }, kinds := [], alts := [], laidByText := true, laidKinds := [.data, .pinned], laidTests := true, laidLooks := .later }
def NamesMovedUptoCardSaid : Prop := Claim7.holds Tryd.pinned (.plain (OpenSpec.upto namesMovedSpec)) namesMovedUptoCard

/-- THE SECOND FORM's CARD OF 'haversacklaw07.NamesMatches'. -/
def namesMatchesUptoCard : Claim7 := { stood := { row := namesMatchesUptoRow, standIns := [], harness := (true, "2ad86f03233743d64419f7cf21377bab17c86d335c377d97eadb784c28c57610"), looks := false }, kinds := [], alts := [], laidByText := true, laidKinds := [.data, .pinned], laidTests := true, laidLooks := .later }
def NamesMatchesUptoCardSaid : Prop := Claim7.holds Tryd.pinned (.plain (OpenSpec.upto namesMatchesSpec)) namesMatchesUptoCard

/-- THE SECOND FORM's CARD OF 'haversacklaw07.NamesStars'. -/
def namesStarsUptoCard : Claim7 := { stood := { row := namesStarsUptoRow, standIns := [], harness := (true, "2ad86f03233743d64419f7cf21377bab17c86d335c377d97eadb784c28c57610"), looks := false }, kinds := [], alts := [], laidByText := true, laidKinds := [.data, .pinned], laidTests := true, laidLooks := .later }
def NamesStarsUptoCardSaid : Prop := Claim7.holds Tryd.pinned (.plain (OpenSpec.upto namesStarsSpec)) namesStarsUptoCard

/-- THE SECOND FORM's CARD OF 'haversacklaw07.NamesJudges'. -/
def namesJudgesUptoCard : Claim7 := { stood := { row := namesJudgesUptoRow, standIns := [], harness := (true, "2ad86f03233743d64419f7cf21377bab17c86d335c377d97eadb784c28c57610"), looks := false }, kinds := [], alts := [], laidByText := true, laidKinds := [.data, .pinned], laidTests := true, laidLooks := .later }
def NamesJudgesUptoCardSaid : Prop := Claim7.holds Tryd.pinned (.plain (OpenSpec.upto namesJudgesSpec)) namesJudgesUptoCard

/-- THE SECOND FORM's CARD OF 'haversacklaw07.NamesParts'. -/
def namesPartsUptoCard : Claim7 := { stood := { row := namesPartsUptoRow, standIns := [], harness := (true, "2ad86f03233743d64419f7cf21377bab17c86d335c377d97eadb784c28c57610"), looks := false }, kinds := [], alts := [], laidByText := true, laidKinds := [.data, .pinned], laidTests := true, laidLooks := .later }
def NamesPartsUptoCardSaid : Prop := Claim7.holds Tryd.pinned (.plain (OpenSpec.upto namesPartsSpec)) namesPartsUptoCard
end Rows
end Go.Proofs.YtnkibbfpmhgeaaaDoor
