/-
  NARROWER THAN 'FOR EVERY INPUT', by the rows' own cells (each row's printed sentence says how): HeaderCuts: laid · HeaderAddresses: laid · HeaderWhole: laid · HeaderPeople: laid · HeaderGets: laid · HeaderSplits: laid · HeaderEnvelopes: laid.
  DERIVED. THE GIVEN ROWS OF THIS SEAT. 7 by the template 'for every input the law returns true; each argument reads behind the call as it read before'; 0 by the template 'total and deterministic' (their statements: YtkngjdhggcaonaaDoorTotals.lean).
  GIVEN WITH THE SEED: the statements are not yours to turn. If you find one false, say at which input.
  Laid BY PROGRAM, IN A SANDBOX (cutbox-rows.mjs): the forced cells as the released guide's own fill.sh prints them over the translation cc98ed81af955398… (all of the seat's roots in one cut). By AI agents, Wed Nov 11 2026. No macro, syntax, notation, axiom, sorry.
-/
import Derived.Test.YtkngjdhggcaonaaDoorChecked
import GoSem.PinnedTables
import GoSem.Claim
import GoSem.ClaimJoined
import GoSem.ClaimMapViews
import Derived.JoinedTies
import Derived.KernelRfl
namespace Go.Proofs.YtkngjdhggcaonaaDoor
/- THE CELL 'sum', in the pinned program and in every row, IS THE sha256 OF THE DUMP (.gsa) THAT YtkngjdhggcaonaaDoorProg.lean LOADS. Nothing in Lean hashes anything: it is a label: what it is worth is what the hold of that sum in a sandbox is worth. -/
noncomputable def Tryd.pinned : Pinned := { name := "ytkngjdhggcaonaadoor", sum := "cc98ed81af95539812da6e6ddec629ae1a70d8f349c5dc82250837f6805a59ff", checked := Tryd.checked }
namespace Rows
def none {H : Type} : Left H := { results := [], args := [] }

/- WHAT THE LISTED PACKAGE-LEVEL VARIABLES READ AS WHEN THE CALL BEGINS. Each datum BY PROGRAM (the guide's laid-datum.mjs) off the statement by which the dump's own 'gosem.cut.vars' lays the variable. In a bare row this is a premise. The card (YtkngjdhggcaonaaDoorCards.lean) ties it to the program's text. -/
def laid_unicode_utf8_acceptRanges {H : Type} : DataW H := .agg [.agg [.lit (.int .u8 128), .lit (.int .u8 191)], .agg [.lit (.int .u8 160), .lit (.int .u8 191)], .agg [.lit (.int .u8 128), .lit (.int .u8 159)], .agg [.lit (.int .u8 144), .lit (.int .u8 191)], .agg [.lit (.int .u8 128), .lit (.int .u8 143)], .agg [.lit (.int .u8 0), .lit (.int .u8 0)], .agg [.lit (.int .u8 0), .lit (.int .u8 0)], .agg [.lit (.int .u8 0), .lit (.int .u8 0)], .agg [.lit (.int .u8 0), .lit (.int .u8 0)], .agg [.lit (.int .u8 0), .lit (.int .u8 0)], .agg [.lit (.int .u8 0), .lit (.int .u8 0)], .agg [.lit (.int .u8 0), .lit (.int .u8 0)], .agg [.lit (.int .u8 0), .lit (.int .u8 0)], .agg [.lit (.int .u8 0), .lit (.int .u8 0)], .agg [.lit (.int .u8 0), .lit (.int .u8 0)], .agg [.lit (.int .u8 0), .lit (.int .u8 0)]]
/-- One of Go's own tables, pinned by name: the form's constant. -/
def laid_unicode_utf8_first : DataW Unit := Go.Pinned.utf8First

/-- 'haversacklaw10.HeaderCuts': WHATEVER THE INPUT: true; the input reads as it did. -/
def headerCutsSpec : ChangeSpec := { name := "headerCuts", fn := fun _ => fun
  | [d] => { results := [.lit (.bool true)], args := [d] }
  | _ => none }
def headerCutsRow : OpenClaim := { program := "ytkngjdhggcaonaadoor", sum := "cc98ed81af95539812da6e6ddec629ae1a70d8f349c5dc82250837f6805a59ff", func := "haversack/haversacklaw10.HeaderCuts", spec := "headerCuts", inPlace := ["internal/bytealg.IndexByteString", "internal/bytealg.IndexString", "internal/bytealg.CountString", "internal/abi.NoEscape", "internal/bytealg.MakeNoZero"], unfollowed := true, recurses := true, named := ["internal/bytealg.MaxLen", "unicode/utf8.first", "unicode/utf8.acceptRanges"], apart := false, laid := [("unicode/utf8.acceptRanges", laid_unicode_utf8_acceptRanges), ("unicode/utf8.first", laid_unicode_utf8_first)] }
def HeaderCutsSaid : Prop := headerCutsRow.holds Tryd.pinned (OpenSpec.ofChange headerCutsSpec)

/-- ITS FALSE NEIGHBOUR: 'it returns false'. Refute it at one input. -/
def headerCutsWrong : ChangeSpec := { name := "headerCuts", fn := fun _ => fun
  | [d] => { results := [.lit (.bool false)], args := [d] }
  | _ => none }
def HeaderCutsWrongFalsely : Prop := headerCutsRow.holds Tryd.pinned (OpenSpec.ofChange headerCutsWrong)

/-- 'haversacklaw10.HeaderAddresses': WHATEVER THE INPUT: true; the input reads as it did. -/
def headerAddressesSpec : ChangeSpec := { name := "headerAddresses", fn := fun _ => fun
  | [d] => { results := [.lit (.bool true)], args := [d] }
  | _ => none }
def headerAddressesRow : OpenClaim := { program := "ytkngjdhggcaonaadoor", sum := "cc98ed81af95539812da6e6ddec629ae1a70d8f349c5dc82250837f6805a59ff", func := "haversack/haversacklaw10.HeaderAddresses", spec := "headerAddresses", inPlace := ["internal/bytealg.IndexByteString", "internal/bytealg.IndexString", "internal/bytealg.CountString", "internal/abi.NoEscape", "internal/bytealg.MakeNoZero"], unfollowed := true, recurses := true, named := ["internal/bytealg.MaxLen", "unicode/utf8.first", "unicode/utf8.acceptRanges"], apart := false, laid := [("unicode/utf8.acceptRanges", laid_unicode_utf8_acceptRanges), ("unicode/utf8.first", laid_unicode_utf8_first)] }
def HeaderAddressesSaid : Prop := headerAddressesRow.holds Tryd.pinned (OpenSpec.ofChange headerAddressesSpec)

/-- ITS FALSE NEIGHBOUR: 'it returns false'. Refute it at one input. -/
def headerAddressesWrong : ChangeSpec := { name := "headerAddresses", fn := fun _ => fun
  | [d] => { results := [.lit (.bool false)], args := [d] }
  | _ => none }
def HeaderAddressesWrongFalsely : Prop := headerAddressesRow.holds Tryd.pinned (OpenSpec.ofChange headerAddressesWrong)

/-- 'haversacklaw10.HeaderWhole': WHATEVER THE INPUT: true; the input reads as it did. -/
def headerWholeSpec : ChangeSpec := { name := "headerWhole", fn := fun _ => fun
  | [d] => { results := [.lit (.bool true)], args := [d] }
  | _ => none }
def headerWholeRow : OpenClaim := { program := "ytkngjdhggcaonaadoor", sum := "cc98ed81af95539812da6e6ddec629ae1a70d8f349c5dc82250837f6805a59ff", func := "haversack/haversacklaw10.HeaderWhole", spec := "headerWhole", inPlace := ["internal/bytealg.IndexByteString", "internal/bytealg.IndexString", "internal/bytealg.CountString", "internal/abi.NoEscape", "internal/bytealg.MakeNoZero"], unfollowed := true, recurses := true, named := ["internal/bytealg.MaxLen", "unicode/utf8.first", "unicode/utf8.acceptRanges"], apart := false, laid := [("unicode/utf8.acceptRanges", laid_unicode_utf8_acceptRanges), ("unicode/utf8.first", laid_unicode_utf8_first)] }
def HeaderWholeSaid : Prop := headerWholeRow.holds Tryd.pinned (OpenSpec.ofChange headerWholeSpec)

/-- ITS FALSE NEIGHBOUR: 'it returns false'. Refute it at one input. -/
def headerWholeWrong : ChangeSpec := { name := "headerWhole", fn := fun _ => fun
  | [d] => { results := [.lit (.bool false)], args := [d] }
  | _ => none }
def HeaderWholeWrongFalsely : Prop := headerWholeRow.holds Tryd.pinned (OpenSpec.ofChange headerWholeWrong)

/-- 'haversacklaw10.HeaderPeople': WHATEVER THE INPUT: true; the input reads as it did. -/
def headerPeopleSpec : ChangeSpec := { name := "headerPeople", fn := fun _ => fun
  | [d1, d2] => { results := [.lit (.bool true)], args := [d1, d2] }
  | _ => none }
def headerPeopleRow : OpenClaim := { program := "ytkngjdhggcaonaadoor", sum := "cc98ed81af95539812da6e6ddec629ae1a70d8f349c5dc82250837f6805a59ff", func := "haversack/haversacklaw10.HeaderPeople", spec := "headerPeople", inPlace := ["internal/bytealg.IndexByteString", "internal/bytealg.IndexString", "internal/bytealg.CountString", "internal/abi.NoEscape", "internal/bytealg.MakeNoZero"], unfollowed := true, recurses := true, named := ["internal/bytealg.MaxLen", "unicode/utf8.first", "unicode/utf8.acceptRanges"], apart := false, laid := [("unicode/utf8.acceptRanges", laid_unicode_utf8_acceptRanges), ("unicode/utf8.first", laid_unicode_utf8_first)] }
def HeaderPeopleSaid : Prop := headerPeopleRow.holds Tryd.pinned (OpenSpec.ofChange headerPeopleSpec)

/-- ITS FALSE NEIGHBOUR: 'it returns false'. Refute it at one input. -/
def headerPeopleWrong : ChangeSpec := { name := "headerPeople", fn := fun _ => fun
  | [d1, d2] => { results := [.lit (.bool false)], args := [d1, d2] }
  | _ => none }
def HeaderPeopleWrongFalsely : Prop := headerPeopleRow.holds Tryd.pinned (OpenSpec.ofChange headerPeopleWrong)

/-- 'haversacklaw10.HeaderGets': WHATEVER THE INPUT: true; the input reads as it did. -/
def headerGetsSpec : ChangeSpec := { name := "headerGets", fn := fun _ => fun
  | [d1, d2, d3, d4] => { results := [.lit (.bool true)], args := [d1, d2, d3, d4] }
  | _ => none }
def headerGetsRow : OpenClaim := { program := "ytkngjdhggcaonaadoor", sum := "cc98ed81af95539812da6e6ddec629ae1a70d8f349c5dc82250837f6805a59ff", func := "haversack/haversacklaw10.HeaderGets", spec := "headerGets", inPlace := ["internal/bytealg.IndexByteString", "internal/bytealg.IndexString", "internal/bytealg.CountString", "internal/abi.NoEscape", "internal/bytealg.MakeNoZero"], unfollowed := true, recurses := true, named := ["internal/bytealg.MaxLen", "unicode/utf8.first", "unicode/utf8.acceptRanges"], apart := false, laid := [("unicode/utf8.acceptRanges", laid_unicode_utf8_acceptRanges), ("unicode/utf8.first", laid_unicode_utf8_first)] }
def HeaderGetsSaid : Prop := headerGetsRow.holds Tryd.pinned (OpenSpec.ofChange headerGetsSpec)

/-- ITS FALSE NEIGHBOUR: 'it returns false'. Refute it at one input. -/
def headerGetsWrong : ChangeSpec := { name := "headerGets", fn := fun _ => fun
  | [d1, d2, d3, d4] => { results := [.lit (.bool false)], args := [d1, d2, d3, d4] }
  | _ => none }
def HeaderGetsWrongFalsely : Prop := headerGetsRow.holds Tryd.pinned (OpenSpec.ofChange headerGetsWrong)

/-- 'haversacklaw10.HeaderSplits': WHATEVER THE INPUT: true; the input reads as it did. -/
def headerSplitsSpec : ChangeSpec := { name := "headerSplits", fn := fun _ => fun
  | [d1, d2] => { results := [.lit (.bool true)], args := [d1, d2] }
  | _ => none }
def headerSplitsRow : OpenClaim := { program := "ytkngjdhggcaonaadoor", sum := "cc98ed81af95539812da6e6ddec629ae1a70d8f349c5dc82250837f6805a59ff", func := "haversack/haversacklaw10.HeaderSplits", spec := "headerSplits", inPlace := ["internal/bytealg.IndexByteString", "internal/bytealg.IndexString", "internal/bytealg.CountString", "internal/abi.NoEscape", "internal/bytealg.MakeNoZero"], unfollowed := true, recurses := true, named := ["internal/bytealg.MaxLen", "unicode/utf8.first", "unicode/utf8.acceptRanges"], apart := false, laid := [("unicode/utf8.acceptRanges", laid_unicode_utf8_acceptRanges), ("unicode/utf8.first", laid_unicode_utf8_first)] }
def HeaderSplitsSaid : Prop := headerSplitsRow.holds Tryd.pinned (OpenSpec.ofChange headerSplitsSpec)

/-- ITS FALSE NEIGHBOUR: 'it returns false'. Refute it at one input. -/
def headerSplitsWrong : ChangeSpec := { name := "headerSplits", fn := fun _ => fun
  | [d1, d2] => { results := [.lit (.bool false)], args := [d1, d2] }
  | _ => none }
def HeaderSplitsWrongFalsely : Prop := headerSplitsRow.holds Tryd.pinned (OpenSpec.ofChange headerSplitsWrong)

/-- 'haversacklaw10.HeaderEnvelopes': WHATEVER THE INPUT: true; the input reads as it did. -/
def headerEnvelopesSpec : ChangeSpec := { name := "headerEnvelopes", fn := fun _ => fun
  | [d] => { results := [.lit (.bool true)], args := [d] }
  | _ => none }
def headerEnvelopesRow : OpenClaim := { program := "ytkngjdhggcaonaadoor", sum := "cc98ed81af95539812da6e6ddec629ae1a70d8f349c5dc82250837f6805a59ff", func := "haversack/haversacklaw10.HeaderEnvelopes", spec := "headerEnvelopes", inPlace := ["internal/bytealg.IndexByteString", "internal/bytealg.IndexString", "internal/bytealg.CountString", "internal/abi.NoEscape", "internal/bytealg.MakeNoZero"], unfollowed := true, recurses := true, named := ["internal/bytealg.MaxLen", "unicode/utf8.first", "unicode/utf8.acceptRanges"], apart := false, laid := [("unicode/utf8.acceptRanges", laid_unicode_utf8_acceptRanges), ("unicode/utf8.first", laid_unicode_utf8_first)] }
def HeaderEnvelopesSaid : Prop := headerEnvelopesRow.holds Tryd.pinned (OpenSpec.ofChange headerEnvelopesSpec)

/-- ITS FALSE NEIGHBOUR: 'it returns false'. Refute it at one input. -/
def headerEnvelopesWrong : ChangeSpec := { name := "headerEnvelopes", fn := fun _ => fun
  | [d] => { results := [.lit (.bool false)], args := [d] }
  | _ => none }
def HeaderEnvelopesWrongFalsely : Prop := headerEnvelopesRow.holds Tryd.pinned (OpenSpec.ofChange headerEnvelopesWrong)

/- THE SECOND FORM. 'bulk': how many values and letters a reading holds, each counted each time it is reached (what is shared counts as often as it is met; a slice's spare places count too). A statement '..UptoSaid' is the law's where the arguments, and the package variables that the reading takes, are together of bulk at most 1048576: NARROWER than '..Said'. Prove '..Said' where nothing that the law and all that it calls make is longer than what came in: it says more and counts as full. Else prove '..UptoSaid'. A law counts once. -/
mutual
def uptoBulk {H : Type} : DataW H → Nat
  | .lit (.string bytes) => bytes.length + 1
  | .lit _ => 1
  | .nil => 1
  | .ptr d => uptoBulk d + 1
  | .slice elems spare => uptoBulkAll elems + uptoBulkAll spare + 1
  | .agg parts => uptoBulkAll parts + 1
  | .iface _ d => uptoBulk d + 1
  | .map entries => uptoBulkEntries entries + 1
  | .held _ => 1
def uptoBulkAll {H : Type} : List (DataW H) → Nat
  | [] => 0
  | d :: r => uptoBulk d + uptoBulkAll r
def uptoBulkEntries {H : Type} : List (Lit × DataW H) → Nat
  | [] => 0
  | x :: r => uptoBulkEntry x + uptoBulkEntries r
def uptoBulkEntry {H : Type} : Lit × DataW H → Nat
  | (.string bytes, d) => bytes.length + uptoBulk d + 1
  | (_, d) => uptoBulk d + 1
 end
def uptoSmall : (H : Type) → List (DataW H) → Bool := fun _ ds => decide (uptoBulkAll ds ≤ 1048576)
def OpenSpec.upto (s : _root_.Go.ChangeSpec) : _root_.Go.OpenSpec := { _root_.Go.OpenSpec.ofChange s with cond := some uptoSmall }

/-- 'haversacklaw10.HeaderCuts', WHERE WHAT IT READS IS OF BULK AT MOST 1048576: true; the input reads as it did. -/
def headerCutsUptoRow : OpenClaim := { program := "ytkngjdhggcaonaadoor", sum := "cc98ed81af95539812da6e6ddec629ae1a70d8f349c5dc82250837f6805a59ff", func := "haversack/haversacklaw10.HeaderCuts", spec := "headerCuts", inPlace := ["internal/bytealg.IndexByteString", "internal/bytealg.IndexString", "internal/bytealg.CountString", "internal/abi.NoEscape", "internal/bytealg.MakeNoZero"], unfollowed := true, recurses := true, named := ["internal/bytealg.MaxLen", "unicode/utf8.first", "unicode/utf8.acceptRanges"], apart := false, laid := [("unicode/utf8.acceptRanges", laid_unicode_utf8_acceptRanges), ("unicode/utf8.first", laid_unicode_utf8_first)], narrowed := true }
def HeaderCutsUptoSaid : Prop := headerCutsUptoRow.holds Tryd.pinned (OpenSpec.upto headerCutsSpec)

/-- 'haversacklaw10.HeaderAddresses', WHERE WHAT IT READS IS OF BULK AT MOST 1048576: true; the input reads as it did. -/
def headerAddressesUptoRow : OpenClaim := { program := "ytkngjdhggcaonaadoor", sum := "cc98ed81af95539812da6e6ddec629ae1a70d8f349c5dc82250837f6805a59ff", func := "haversack/haversacklaw10.HeaderAddresses", spec := "headerAddresses", inPlace := ["internal/bytealg.IndexByteString", "internal/bytealg.IndexString", "internal/bytealg.CountString", "internal/abi.NoEscape", "internal/bytealg.MakeNoZero"], unfollowed := true, recurses := true, named := ["internal/bytealg.MaxLen", "unicode/utf8.first", "unicode/utf8.acceptRanges"], apart := false, laid := [("unicode/utf8.acceptRanges", laid_unicode_utf8_acceptRanges), ("unicode/utf8.first", laid_unicode_utf8_first)], narrowed := true }
def HeaderAddressesUptoSaid : Prop := headerAddressesUptoRow.holds Tryd.pinned (OpenSpec.upto headerAddressesSpec)

/-- 'haversacklaw10.HeaderWhole', WHERE WHAT IT READS IS OF BULK AT MOST 1048576: true; the input reads as it did. -/
def headerWholeUptoRow : OpenClaim := { program := "ytkngjdhggcaonaadoor", sum := "cc98ed81af95539812da6e6ddec629ae1a70d8f349c5dc82250837f6805a59ff", func := "haversack/haversacklaw10.HeaderWhole", spec := "headerWhole", inPlace := ["internal/bytealg.IndexByteString", "internal/bytealg.IndexString", "internal/bytealg.CountString", "internal/abi.NoEscape", "internal/bytealg.MakeNoZero"], unfollowed := true, recurses := true, named := ["internal/bytealg.MaxLen", "unicode/utf8.first", "unicode/utf8.acceptRanges"], apart := false, laid := [("unicode/utf8.acceptRanges", laid_unicode_utf8_acceptRanges), ("unicode/utf8.first", laid_unicode_utf8_first)], narrowed := true }
def HeaderWholeUptoSaid : Prop := headerWholeUptoRow.holds Tryd.pinned (OpenSpec.upto headerWholeSpec)

/-- 'haversacklaw10.HeaderPeople', WHERE WHAT IT READS IS OF BULK AT MOST 1048576: true; the input reads as it did. -/
def headerPeopleUptoRow : OpenClaim := { program := "ytkngjdhggcaonaadoor", sum := "cc98ed81af95539812da6e6ddec629ae1a70d8f349c5dc82250837f6805a59ff", func := "haversack/haversacklaw10.HeaderPeople", spec := "headerPeople", inPlace := ["internal/bytealg.IndexByteString", "internal/bytealg.IndexString", "internal/bytealg.CountString", "internal/abi.NoEscape", "internal/bytealg.MakeNoZero"], unfollowed := true, recurses := true, named := ["internal/bytealg.MaxLen", "unicode/utf8.first", "unicode/utf8.acceptRanges"], apart := false, laid := [("unicode/utf8.acceptRanges", laid_unicode_utf8_acceptRanges), ("unicode/utf8.first", laid_unicode_utf8_first)], narrowed := true }
def HeaderPeopleUptoSaid : Prop := headerPeopleUptoRow.holds Tryd.pinned (OpenSpec.upto headerPeopleSpec)

/-- 'haversacklaw10.HeaderGets', WHERE WHAT IT READS IS OF BULK AT MOST 1048576: true; the input reads as it did. -/
def headerGetsUptoRow : OpenClaim := { program := "ytkngjdhggcaonaadoor", sum := "cc98ed81af95539812da6e6ddec629ae1a70d8f349c5dc82250837f6805a59ff", func := "haversack/haversacklaw10.HeaderGets", spec := "headerGets", inPlace := ["internal/bytealg.IndexByteString", "internal/bytealg.IndexString", "internal/bytealg.CountString", "internal/abi.NoEscape", "internal/bytealg.MakeNoZero"], unfollowed := true, recurses := true, named := ["internal/bytealg.MaxLen", "unicode/utf8.first", "unicode/utf8.acceptRanges"], apart := false, laid := [("unicode/utf8.acceptRanges", laid_unicode_utf8_acceptRanges), ("unicode/utf8.first", laid_unicode_utf8_first)], narrowed := true }
def HeaderGetsUptoSaid : Prop := headerGetsUptoRow.holds Tryd.pinned (OpenSpec.upto headerGetsSpec)

/-- 'haversacklaw10.HeaderSplits', WHERE WHAT IT READS IS OF BULK AT MOST 1048576: true; the input reads as it did. -/
def headerSplitsUptoRow : OpenClaim := { program := "ytkngjdhggcaonaadoor", sum := "cc98ed81af95539812da6e6ddec629ae1a70d8f349c5dc82250837f6805a59ff", func := "haversack/haversacklaw10.HeaderSplits", spec := "headerSplits", inPlace := ["internal/bytealg.IndexByteString", "internal/bytealg.IndexString", "internal/bytealg.CountString", "internal/abi.NoEscape", "internal/bytealg.MakeNoZero"], unfollowed := true, recurses := true, named := ["internal/bytealg.MaxLen", "unicode/utf8.first", "unicode/utf8.acceptRanges"], apart := false, laid := [("unicode/utf8.acceptRanges", laid_unicode_utf8_acceptRanges), ("unicode/utf8.first", laid_unicode_utf8_first)], narrowed := true }
def HeaderSplitsUptoSaid : Prop := headerSplitsUptoRow.holds Tryd.pinned (OpenSpec.upto headerSplitsSpec)

/-- 'haversacklaw10.HeaderEnvelopes', WHERE WHAT IT READS IS OF BULK AT MOST 1048576: true; the input reads as it did. -/
def headerEnvelopesUptoRow : OpenClaim := { program := "ytkngjdhggcaonaadoor", sum := "cc98ed81af95539812da6e6ddec629ae1a70d8f349c5dc82250837f6805a59ff", func := "haversack/haversacklaw10.HeaderEnvelopes", spec := "headerEnvelopes", inPlace := ["internal/bytealg.IndexByteString", "internal/bytealg.IndexString", "internal/bytealg.CountString", "internal/abi.NoEscape", "internal/bytealg.MakeNoZero"], unfollowed := true, recurses := true, named := ["internal/bytealg.MaxLen", "unicode/utf8.first", "unicode/utf8.acceptRanges"], apart := false, laid := [("unicode/utf8.acceptRanges", laid_unicode_utf8_acceptRanges), ("unicode/utf8.first", laid_unicode_utf8_first)], narrowed := true }
def HeaderEnvelopesUptoSaid : Prop := headerEnvelopesUptoRow.holds Tryd.pinned (OpenSpec.upto headerEnvelopesSpec)

end Rows
end Go.Proofs.YtkngjdhggcaonaaDoor
