/-
  No cell of these rows narrows 'for every input' (looked for: loops, veiled, ifaces, maps, wideKeys, modest, calm, conditions, laid).
  DERIVED. THE GIVEN ROWS OF THIS SEAT. 5 by the template 'for every input the law returns true; each argument reads behind the call as it read before'; 0 by the template 'total and deterministic' (their statements: YtooknjpdflokkaaTotals.lean).
  GIVEN WITH THE SEED: the statements are not yours to turn. If you find one false, say at which input.
  Laid BY PROGRAM, IN A SANDBOX (cutbox-rows.mjs): the forced cells as the released guide's own fill.sh prints them over the translation 36a7b17aa97dcc13… (all of the seat's roots in one cut). By AI agents, Wed Nov 11 2026. No macro, syntax, notation, axiom, sorry.
-/
import Derived.Test.YtooknjpdflokkaaChecked
import GoSem.Claim
import GoSem.ClaimJoined
import GoSem.ClaimMapViews
import Derived.JoinedTies
import Derived.KernelRfl
namespace Go.Proofs.Ytooknjpdflokkaa
/- THE CELL 'sum', in the pinned program and in every row, IS THE sha256 OF THE DUMP (.gsa) THAT YtooknjpdflokkaaProg.lean LOADS. Nothing in Lean hashes anything: it is a label: what it is worth is what the hold of that sum in a sandbox is worth. -/
noncomputable def Try.pinned : Pinned := { name := "ytooknjpdflokkaa", sum := "36a7b17aa97dcc13302f635b53e93b24ca82834d4b9ba8746682aacbe57861b9", checked := Try.checked }
namespace Rows
def none {H : Type} : Left H := { results := [], args := [] }

/-- 'haversacklaw09.DatePrints': WHATEVER THE INPUT: true; the input reads as it did. -/
def datePrintsSpec : ChangeSpec := { name := "datePrints", fn := fun _ => fun
  | [d1, d2] => { results := [.lit (.bool true)], args := [d1, d2] }
  | _ => none }
def datePrintsRow : OpenClaim := { program := "ytooknjpdflokkaa", sum := "36a7b17aa97dcc13302f635b53e93b24ca82834d4b9ba8746682aacbe57861b9", func := "haversack/haversacklaw09.DatePrints", spec := "datePrints", unfollowed := true, recurses := true, apart := false }
def DatePrintsSaid : Prop := datePrintsRow.holds Try.pinned (OpenSpec.ofChange datePrintsSpec)

/-- ITS FALSE NEIGHBOUR: 'it returns false'. Refute it at one input. -/
def datePrintsWrong : ChangeSpec := { name := "datePrints", fn := fun _ => fun
  | [d1, d2] => { results := [.lit (.bool false)], args := [d1, d2] }
  | _ => none }
def DatePrintsWrongFalsely : Prop := datePrintsRow.holds Try.pinned (OpenSpec.ofChange datePrintsWrong)

/-- 'haversacklaw09.DateLast': WHATEVER THE INPUT: true; the input reads as it did. -/
def dateLastSpec : ChangeSpec := { name := "dateLast", fn := fun _ => fun
  | [d] => { results := [.lit (.bool true)], args := [d] }
  | _ => none }
def dateLastRow : OpenClaim := { program := "ytooknjpdflokkaa", sum := "36a7b17aa97dcc13302f635b53e93b24ca82834d4b9ba8746682aacbe57861b9", func := "haversack/haversacklaw09.DateLast", spec := "dateLast", unfollowed := true, recurses := true, apart := false }
def DateLastSaid : Prop := dateLastRow.holds Try.pinned (OpenSpec.ofChange dateLastSpec)

/-- ITS FALSE NEIGHBOUR: 'it returns false'. Refute it at one input. -/
def dateLastWrong : ChangeSpec := { name := "dateLast", fn := fun _ => fun
  | [d] => { results := [.lit (.bool false)], args := [d] }
  | _ => none }
def DateLastWrongFalsely : Prop := dateLastRow.holds Try.pinned (OpenSpec.ofChange dateLastWrong)

/-- 'haversacklaw09.DateDays': WHATEVER THE INPUT: true; the input reads as it did. -/
def dateDaysSpec : ChangeSpec := { name := "dateDays", fn := fun _ => fun
  | [d1, d2, d3, d4] => { results := [.lit (.bool true)], args := [d1, d2, d3, d4] }
  | _ => none }
def dateDaysRow : OpenClaim := { program := "ytooknjpdflokkaa", sum := "36a7b17aa97dcc13302f635b53e93b24ca82834d4b9ba8746682aacbe57861b9", func := "haversack/haversacklaw09.DateDays", spec := "dateDays", unfollowed := true, recurses := true, apart := false }
def DateDaysSaid : Prop := dateDaysRow.holds Try.pinned (OpenSpec.ofChange dateDaysSpec)

/-- ITS FALSE NEIGHBOUR: 'it returns false'. Refute it at one input. -/
def dateDaysWrong : ChangeSpec := { name := "dateDays", fn := fun _ => fun
  | [d1, d2, d3, d4] => { results := [.lit (.bool false)], args := [d1, d2, d3, d4] }
  | _ => none }
def DateDaysWrongFalsely : Prop := dateDaysRow.holds Try.pinned (OpenSpec.ofChange dateDaysWrong)

/-- 'haversacklaw09.DateTurns': WHATEVER THE INPUT: true; the input reads as it did. -/
def dateTurnsSpec : ChangeSpec := { name := "dateTurns", fn := fun _ => fun
  | [d1, d2, d3, d4] => { results := [.lit (.bool true)], args := [d1, d2, d3, d4] }
  | _ => none }
def dateTurnsRow : OpenClaim := { program := "ytooknjpdflokkaa", sum := "36a7b17aa97dcc13302f635b53e93b24ca82834d4b9ba8746682aacbe57861b9", func := "haversack/haversacklaw09.DateTurns", spec := "dateTurns", unfollowed := true, recurses := true, apart := false }
def DateTurnsSaid : Prop := dateTurnsRow.holds Try.pinned (OpenSpec.ofChange dateTurnsSpec)

/-- ITS FALSE NEIGHBOUR: 'it returns false'. Refute it at one input. -/
def dateTurnsWrong : ChangeSpec := { name := "dateTurns", fn := fun _ => fun
  | [d1, d2, d3, d4] => { results := [.lit (.bool false)], args := [d1, d2, d3, d4] }
  | _ => none }
def DateTurnsWrongFalsely : Prop := dateTurnsRow.holds Try.pinned (OpenSpec.ofChange dateTurnsWrong)

/-- 'haversacklaw09.DateSeconds': WHATEVER THE INPUT: true; the input reads as it did. -/
def dateSecondsSpec : ChangeSpec := { name := "dateSeconds", fn := fun _ => fun
  | [d1, d2, d3] => { results := [.lit (.bool true)], args := [d1, d2, d3] }
  | _ => none }
def dateSecondsRow : OpenClaim := { program := "ytooknjpdflokkaa", sum := "36a7b17aa97dcc13302f635b53e93b24ca82834d4b9ba8746682aacbe57861b9", func := "haversack/haversacklaw09.DateSeconds", spec := "dateSeconds", unfollowed := true, recurses := true, apart := false }
def DateSecondsSaid : Prop := dateSecondsRow.holds Try.pinned (OpenSpec.ofChange dateSecondsSpec)

/-- ITS FALSE NEIGHBOUR: 'it returns false'. Refute it at one input. -/
def dateSecondsWrong : ChangeSpec := { name := "dateSeconds", fn := fun _ => fun
  | [d1, d2, d3] => { results := [.lit (.bool false)], args := [d1, d2, d3] }
  | _ => none }
def DateSecondsWrongFalsely : Prop := dateSecondsRow.holds Try.pinned (OpenSpec.ofChange dateSecondsWrong)

/- THE SECOND FORM. 'bulk': how many values and letters a reading holds, each counted each time it is reached (what is shared counts as often as it is met; a slice's spare places count too). A statement '..UptoSaid' is the law's where the arguments, and the package variables that the reading takes, are together of bulk at most 1048576: NARROWER than '..Said'. Prove '..Said' where nothing that the law and all that it calls make is longer than what came in: it says more and counts as full. Else prove '..UptoSaid'. A law counts once. -/
mutual
def uptoBulk {H : Type} : DataW H → Nat
  | .lit (.string bytes) => bytes.length + 1
  | .lit _ => 1
  | .nil => 1
  | .ptr d => uptoBulk d + 1
  | .slice elems spare => uptoBulkAll elems + uptoBulkAll spare + 1
  | .agg parts => uptoBulkAll parts + 1
  | .iface _ d => uptoBulk d + 1
  | .map entries => uptoBulkEntries entries + 1
  | .held _ => 1
def uptoBulkAll {H : Type} : List (DataW H) → Nat
  | [] => 0
  | d :: r => uptoBulk d + uptoBulkAll r
def uptoBulkEntries {H : Type} : List (Lit × DataW H) → Nat
  | [] => 0
  | x :: r => uptoBulkEntry x + uptoBulkEntries r
def uptoBulkEntry {H : Type} : Lit × DataW H → Nat
  | (.string bytes, d) => bytes.length + uptoBulk d + 1
  | (_, d) => uptoBulk d + 1
 end
def uptoSmall : (H : Type) → List (DataW H) → Bool := fun _ ds => decide (uptoBulkAll ds ≤ 1048576)
def OpenSpec.upto (s : _root_.Go.ChangeSpec) : _root_.Go.OpenSpec := { _root_.Go.OpenSpec.ofChange s with cond := some uptoSmall }

/-- 'haversacklaw09.DatePrints', WHERE WHAT IT READS IS OF BULK AT MOST 1048576: true; the input reads as it did. -/
def datePrintsUptoRow : OpenClaim := { program := "ytooknjpdflokkaa", sum := "36a7b17aa97dcc13302f635b53e93b24ca82834d4b9ba8746682aacbe57861b9", func := "haversack/haversacklaw09.DatePrints", spec := "datePrints", unfollowed := true, recurses := true, apart := false, narrowed := true }
def DatePrintsUptoSaid : Prop := datePrintsUptoRow.holds Try.pinned (OpenSpec.upto datePrintsSpec)

/-- 'haversacklaw09.DateLast', WHERE WHAT IT READS IS OF BULK AT MOST 1048576: true; the input reads as it did. -/
def dateLastUptoRow : OpenClaim := { program := "ytooknjpdflokkaa", sum := "36a7b17aa97dcc13302f635b53e93b24ca82834d4b9ba8746682aacbe57861b9", func := "haversack/haversacklaw09.DateLast", spec := "dateLast", unfollowed := true, recurses := true, apart := false, narrowed := true }
def DateLastUptoSaid : Prop := dateLastUptoRow.holds Try.pinned (OpenSpec.upto dateLastSpec)

/-- 'haversacklaw09.DateDays', WHERE WHAT IT READS IS OF BULK AT MOST 1048576: true; the input reads as it did. -/
def dateDaysUptoRow : OpenClaim := { program := "ytooknjpdflokkaa", sum := "36a7b17aa97dcc13302f635b53e93b24ca82834d4b9ba8746682aacbe57861b9", func := "haversack/haversacklaw09.DateDays", spec := "dateDays", unfollowed := true, recurses := true, apart := false, narrowed := true }
def DateDaysUptoSaid : Prop := dateDaysUptoRow.holds Try.pinned (OpenSpec.upto dateDaysSpec)

/-- 'haversacklaw09.DateTurns', WHERE WHAT IT READS IS OF BULK AT MOST 1048576: true; the input reads as it did. -/
def dateTurnsUptoRow : OpenClaim := { program := "ytooknjpdflokkaa", sum := "36a7b17aa97dcc13302f635b53e93b24ca82834d4b9ba8746682aacbe57861b9", func := "haversack/haversacklaw09.DateTurns", spec := "dateTurns", unfollowed := true, recurses := true, apart := false, narrowed := true }
def DateTurnsUptoSaid : Prop := dateTurnsUptoRow.holds Try.pinned (OpenSpec.upto dateTurnsSpec)

/-- 'haversacklaw09.DateSeconds', WHERE WHAT IT READS IS OF BULK AT MOST 1048576: true; the input reads as it did. -/
def dateSecondsUptoRow : OpenClaim := { program := "ytooknjpdflokkaa", sum := "36a7b17aa97dcc13302f635b53e93b24ca82834d4b9ba8746682aacbe57861b9", func := "haversack/haversacklaw09.DateSeconds", spec := "dateSeconds", unfollowed := true, recurses := true, apart := false, narrowed := true }
def DateSecondsUptoSaid : Prop := dateSecondsUptoRow.holds Try.pinned (OpenSpec.upto dateSecondsSpec)

end Rows
end Go.Proofs.Ytooknjpdflokkaa
