/-
  DERIVED. GIVEN WITH THE SEED: THE CARDS: each row of YtkngjdhggcaonaaDoorRows.lean that lists a variable, with what it lists TIED to the program's text (the seventh form; the later family's looks); each row that meets fmt, with fmt's text TOLD by the authors' own Lean function (tested against real Go, not proved from fmt's source: count such statements apart). THE CARD IS WHAT COUNTS. Prove the row's statement (the work); the ties are given (YtkngjdhggcaonaaDoorTie.lean); close each card by the builder's one call (the guide's Derived/Test/ToyasCard.lean, 'card_holds'). Laid BY PROGRAM, IN A SANDBOX (cutbox-door.mjs). By AI agents, Wed Nov 11 2026. No macro, syntax, notation, axiom, sorry.
-/
import Derived.Test.YtkngjdhggcaonaaDoorRows
import GoSem.ClaimSeven
namespace Go.Proofs.YtkngjdhggcaonaaDoor
namespace Rows

/-- THE TIED CARD OF 'haversacklaw10.HeaderCuts'. -/
def headerCutsCard : Claim7 := { stood := { row := headerCutsRow, standIns := [], harness := (true, "3102888b7aa13c2bd5dbd307fc23dc02f703b29f9c29721d2329eb95a45b81b5"), looks := false }, kinds := [], alts := [], laidByText := true, laidKinds := [.data, .pinned], laidTests := true, laidLooks := .later }
def HeaderCutsCardSaid : Prop := Claim7.holds Tryd.pinned (.plain (OpenSpec.ofChange headerCutsSpec)) headerCutsCard

/-- THE TIED CARD OF 'haversacklaw10.HeaderAddresses'. -/
def headerAddressesCard : Claim7 := { stood := { row := headerAddressesRow, standIns := [], harness := (true, "3102888b7aa13c2bd5dbd307fc23dc02f703b29f9c29721d2329eb95a45b81b5"), looks := false }, kinds := [], alts := [], laidByText := true, laidKinds := [.data, .pinned], laidTests := true, laidLooks := .later }
def HeaderAddressesCardSaid : Prop := Claim7.holds Tryd.pinned (.plain (OpenSpec.ofChange headerAddressesSpec)) headerAddressesCard

/-- THE TIED CARD OF 'haversacklaw10.HeaderWhole'. -/
def headerWholeCard : Claim7 := { stood := { row := headerWholeRow, standIns := [], harness := (true, "3102888b7aa13c2bd5dbd307fc23dc02f703b29f9c29721d2329eb95a45b81b5"), looks := false }, kinds := [], alts := [], laidByText := true, laidKinds := [.data, .pinned], laidTests := true, laidLooks := .later }
def HeaderWholeCardSaid : Prop := Claim7.holds Tryd.pinned (.plain (OpenSpec.ofChange headerWholeSpec)) headerWholeCard

/-- THE TIED CARD OF 'haversacklaw10.HeaderPeople'. -/
def headerPeopleCard : Claim7 := { stood := { row := headerPeopleRow, standIns := [], harness := (true, "3102888b7aa13c2bd5dbd307fc23dc02f703b29f9c29721d2329eb95a45b81b5"), looks := false }, kinds := [], alts := [], laidByText := true, laidKinds := [.data, .pinned], laidTests := true, laidLooks := .later }
def HeaderPeopleCardSaid : Prop := Claim7.holds Tryd.pinned (.plain (OpenSpec.ofChange headerPeopleSpec)) headerPeopleCard

/-- THE TIED CARD OF 'haversacklaw10.HeaderGets'. -/
def headerGetsCard : Claim7 := { stood := { row := headerGetsRow, standIns := [], harness := (true, "3102888b7aa13c2bd5dbd307fc23dc02f703b29f9c29721d2329eb95a45b81b5"), looks := false }, kinds := [], alts := [], laidByText := true, laidKinds := [.data, .pinned], laidTests := true, laidLooks := .later }
def HeaderGetsCardSaid : Prop := Claim7.holds Tryd.pinned (.plain (OpenSpec.ofChange headerGetsSpec)) headerGetsCard

/-- THE TIED CARD OF 'haversacklaw10.HeaderSplits'. -/
def headerSplitsCard : Claim7 := { stood := { row := headerSplitsRow, standIns := [], harness := (true, "3102888b7aa13c2bd5dbd307fc23dc02f703b29f9c29721d2329eb95a45b81b5"), looks := false }, kinds := [], alts := [], laidByText := true, laidKinds := [.data, .pinned], laidTests := true, laidLooks := .later }
def HeaderSplitsCardSaid : Prop := Claim7.holds Tryd.pinned (.plain (OpenSpec.ofChange headerSplitsSpec)) headerSplitsCard

/-- THE TIED CARD OF 'haversacklaw10.HeaderEnvelopes'. -/
def headerEnvelopesCard : Claim7 := { stood := { row := headerEnvelopesRow, standIns := [], harness := (true, "3102888b7aa13c2bd5dbd307fc23dc02f703b29f9c29721d2329eb95a45b81b5"), looks := false }, kinds := [], alts := [], laidByText := true, laidKinds := [.data, .pinned], laidTests := true, laidLooks := .later }
def HeaderEnvelopesCardSaid : Prop := Claim7.holds Tryd.pinned (.plain (OpenSpec.ofChange headerEnvelopesSpec)) headerEnvelopesCard

/-- THE SECOND FORM's CARD OF 'haversacklaw10.HeaderCuts'. -/
def headerCutsUptoCard : Claim7 := { stood := { row := headerCutsUptoRow, standIns := [], harness := (true, "3102888b7aa13c2bd5dbd307fc23dc02f703b29f9c29721d2329eb95a45b81b5"), looks := false }, kinds := [], alts := [], laidByText := true, laidKinds := [.data, .pinned], laidTests := true, laidLooks := .later }
def HeaderCutsUptoCardSaid : Prop := Claim7.holds Tryd.pinned (.plain (OpenSpec.upto headerCutsSpec)) headerCutsUptoCard

/-- THE SECOND FORM's CARD OF 'haversacklaw10.HeaderAddresses'. -/
def headerAddressesUptoCard : Claim7 := { stood := { row := headerAddressesUptoRow, standIns := [], harness := (true, "3102888b7aa13c2bd5dbd307fc23dc02f703b29f9c29721d2329eb95a45b81b5"), looks := false }, kinds := [], alts := [], laidByText := true, laidKinds := [.data, .pinned], laidTests := true, laidLooks := .later }
def HeaderAddressesUptoCardSaid : Prop := Claim7.holds Tryd.pinned (.plain (OpenSpec.upto headerAddressesSpec)) headerAddressesUptoCard

/-- THE SECOND FORM's CARD OF 'haversacklaw10.HeaderWhole'. -/
def headerWholeUptoCard : Claim7 := { stood := { row := headerWholeUptoRow, standIns := [], harness := (true, "3102888b7aa13c2bd5dbd307fc23dc02f703b29f9c29721d2329eb95a45b81b5"), looks := false }, kinds := [], alts := [], laidByText := true, laidKinds := [.data, .pinned], laidTests := true, laidLooks := .later }
def HeaderWholeUptoCardSaid : Prop := Claim7.holds Tryd.pinned (.plain (OpenSpec.upto headerWholeSpec)) headerWholeUptoCard

/-- THE SECOND FORM's CARD OF 'haversacklaw10.HeaderPeople'. -/
def headerPeopleUptoCard : Claim7 := { stood := { row := headerPeopleUptoRow, standIns := [], harness := (true, "3102888b7aa13c2bd5dbd307fc23dc02f703b29f9c29721d2329eb95a45b81b5"), looks := false }, kinds := [], alts := [], laidByText := true, laidKinds := [.data, .pinned], laidTests := true, laidLooks := .later }
def HeaderPeopleUptoCardSaid : Prop := Claim7.holds Tryd.pinned (.plain (OpenSpec.upto headerPeopleSpec)) headerPeopleUptoCard

/-- THE SECOND FORM's CARD OF 'haversacklaw10.HeaderGets'. -/
def headerGetsUptoCard : Claim7 := { stood := { row := headerGetsUptoRow, standIns := [], harness := (true, "3102888b7aa13c2bd5dbd307fc23dc02f703b29f9c29721d2329eb95a45b81b5"), looks := false }, kinds := [], alts := [], laidByText := true, laidKinds := [.data, .pinned], laidTests := true, laidLooks := .later }
def HeaderGetsUptoCardSaid : Prop := Claim7.holds Tryd.pinned (.plain (OpenSpec.upto headerGetsSpec)) headerGetsUptoCard

/-- THE SECOND FORM's CARD OF 'haversacklaw10.HeaderSplits'. -/
def headerSplitsUptoCard : Claim7 := { stood := { row := headerSplitsUptoRow, standIns := [], harness := (true, "3102888b7aa13c2bd5dbd307fc23dc02f703b29f9c29721d2329eb95a45b81b5"), looks := false }, kinds := [], alts := [], laidByText := true, laidKinds := [.data, .pinned], laidTests := true, laidLooks := .later }
def HeaderSplitsUptoCardSaid : Prop := Claim7.holds Tryd.pinned (.plain (OpenSpec.upto headerSplitsSpec)) headerSplitsUptoCard

/-- THE SECOND FORM's CARD OF 'haversacklaw10.HeaderEnvelopes'. -/
def headerEnvelopesUptoCard : Claim7 := { stood := { row := headerEnvelopesUptoRow, standIns := [], harness := (true, "3102888b7aa13c2bd5dbd307fc23dc02f703b29f9c29721d2329eb95a45b81b5"), looks := false }, kinds := [], alts := [], laidByText := true, laidKinds := [.data, .pinned], laidTests := true, laidLooks := .later }
def HeaderEnvelopesUptoCardSaid : Prop := Claim7.holds Tryd.pinned (.plain (OpenSpec.upto headerEnvelopesSpec)) headerEnvelopesUptoCard
end Rows
end Go.Proofs.YtkngjdhggcaonaaDoor
