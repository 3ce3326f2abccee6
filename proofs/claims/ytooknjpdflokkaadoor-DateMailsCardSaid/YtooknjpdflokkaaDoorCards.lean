/-
  DERIVED. GIVEN WITH THE SEED: THE CARDS: each row of YtooknjpdflokkaaDoorRows.lean that lists a variable, with what it lists TIED to the program's text (the seventh form; the later family's looks); each row that meets fmt, with fmt's text TOLD by the authors' own Lean function (tested against real Go, not proved from fmt's source: count such statements apart). THE CARD IS WHAT COUNTS. Prove the row's statement (the work); the ties are given (YtooknjpdflokkaaDoorTie.lean); close each card by the builder's one call (the guide's Derived/Test/ToyasCard.lean, 'card_holds'). Laid BY PROGRAM, IN A SANDBOX (cutbox-door.mjs). By AI agents, Wed Nov 11 2026. No macro, syntax, notation, axiom, sorry.
-/
import Derived.Test.YtooknjpdflokkaaDoorRows
import GoSem.ClaimSeven
namespace Go.Proofs.YtooknjpdflokkaaDoor
namespace Rows

/-- THE TIED CARD OF 'haversacklaw09.DateMails'. -/
def dateMailsCard : Claim7 := { stood := { row := dateMailsRow, standIns := [], harness := (true, "90e841cf4fdcaac907075ecb08695e63f09c4bdf2889ce5a77c2f0e531c13837"), looks := true }, kinds := [], alts := [], laidByText := true, laidKinds := [.data, .pinned], laidTests := true, laidLooks := .later }
def DateMailsCardSaid : Prop := Claim7.holds Tryd.pinned (.plain (OpenSpec.ofChange dateMailsSpec)) dateMailsCard

/-- THE TIED CARD OF 'haversacklaw09.DateBack'. -/
def dateBackCard : Claim7 := { stood := { row := dateBackRow, standIns := [], harness := (true, "90e841cf4fdcaac907075ecb08695e63f09c4bdf2889ce5a77c2f0e531c13837"), looks := true }, kinds := [], alts := [], laidByText := true, laidKinds := [.data, .pinned], laidTests := true, laidLooks := .later }
def DateBackCardSaid : Prop := Claim7.holds Tryd.pinned (.plain (OpenSpec.ofChange dateBackSpec)) dateBackCard

/-- THE SECOND FORM's CARD OF 'haversacklaw09.DateMails'. -/
def dateMailsUptoCard : Claim7 := { stood := { row := dateMailsUptoRow, standIns := [], harness := (true, "90e841cf4fdcaac907075ecb08695e63f09c4bdf2889ce5a77c2f0e531c13837"), looks := true }, kinds := [], alts := [], laidByText := true, laidKinds := [.data, .pinned], laidTests := true, laidLooks := .later }
def DateMailsUptoCardSaid : Prop := Claim7.holds Tryd.pinned (.plain (OpenSpec.upto dateMailsSpec)) dateMailsUptoCard

/-- THE SECOND FORM's CARD OF 'haversacklaw09.DateBack'. -/
def dateBackUptoCard : Claim7 := { stood := { row := dateBackUptoRow, standIns := [], harness := (true, "90e841cf4fdcaac907075ecb08695e63f09c4bdf2889ce5a77c2f0e531c13837"), looks := true }, kinds := [], alts := [], laidByText := true, laidKinds := [.data, .pinned], laidTests := true, laidLooks := .later }
def DateBackUptoCardSaid : Prop := Claim7.holds Tryd.pinned (.plain (OpenSpec.upto dateBackSpec)) dateBackUptoCard
end Rows
end Go.Proofs.YtooknjpdflokkaaDoor
