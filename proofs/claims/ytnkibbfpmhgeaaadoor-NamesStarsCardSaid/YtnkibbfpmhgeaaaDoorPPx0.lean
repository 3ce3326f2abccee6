-- PRINTED by print.py (a twelfth state) out of the translation. Not trusted: Lean checks it.
import Derived.Test.YtnkibbfpmhgeaaaDoorProg
import Derived.Below
import Derived.Deep.Draws
import Derived.Deep.AppendLies
import Derived.Maps.AppendAt
import Derived.OwnWalk
import Derived.Laws.BytesArg
import Derived.Laws.MakeOwn
import Derived.Laws.OwnMore
import Derived.Deep.OwnRows
import Derived.Tactics
import Derived.Lib.ConvBytes
import Derived.Laws.Slices
import Derived.WalkKit
import Derived.KernelRfl
import Derived.RowKit3
import Derived.Deep.LoopGhost
import Derived.Deep.QuietTactic
import Derived.BigQuiet
import Derived.WideLaws
import Derived.Deep.DeepCutAuto
import Derived.Deep.CutBlock
import Derived.Deep.RegionHeld3
import Derived.Laws.Rows
import Derived.Lib.AppendStr
import Derived.ArgAppend
import Derived.Laws.IdiomCopy
import Derived.OrdersHeld
import Derived.Laws.BitsLemmas
import Derived.RowKit
import Derived.Test.YtnkibbfpmhgeaaaDoorMyRd
import Derived.IntWalk
import Derived.Laws.Pointers
import Derived.Laws.BitsAllLaws
import Derived.Lib.FrozenHead2
import Derived.Deep.RegionHeld3
import Derived.Lib.IndexLaws
import Derived.Laws.Cover4
import Derived.Test.YtnkibbfpmhgeaaaDoorMyBits
import Derived.Test.YtnkibbfpmhgeaaaDoorMyShelfNames
import Derived.Test.YtnkibbfpmhgeaaaDoorMyRunes
import Derived.Test.YtnkibbfpmhgeaaaDoorWWords
import Derived.Test.YtnkibbfpmhgeaaaDoorWLast
import Derived.Test.YtnkibbfpmhgeaaaDoorWTab
import Derived.Test.YtnkibbfpmhgeaaaDoorWFour
import Derived.Test.YtnkibbfpmhgeaaaDoorWQPut
import Derived.Test.YtnkibbfpmhgeaaaDoorWApart
import Derived.Test.YtnkibbfpmhgeaaaDoorWArr
import Derived.Test.YtnkibbfpmhgeaaaDoorWZeros
import Derived.Test.YtnkibbfpmhgeaaaDoorWFoot
import Derived.Test.YtnkibbfpmhgeaaaDoorWKept
import Derived.Test.YtnkibbfpmhgeaaaDoorWShare
import Derived.Test.YtnkibbfpmhgeaaaDoorWN
import Derived.Test.YtnkibbfpmhgeaaaDoorWFootNe
import Derived.Test.YtnkibbfpmhgeaaaDoorWAt
import Derived.Test.YtnkibbfpmhgeaaaDoorWEqStruct
import Derived.Test.YtnkibbfpmhgeaaaDoorWRepsOne
import Derived.Test.YtnkibbfpmhgeaaaDoorWInv
import Derived.Test.YtnkibbfpmhgeaaaDoorWInvWords
import Derived.Test.YtnkibbfpmhgeaaaDoorWGuard
import Derived.Test.YtnkibbfpmhgeaaaDoorWNEv
import Derived.Test.YtnkibbfpmhgeaaaDoorWMore
namespace Go.Proofs.YtnkibbfpmhgeaaaDoor.PP
open Go.RowKit Go.Proofs.YtnkibbfpmhgeaaaDoorW.PrintWords Go.Proofs.YtnkibbfpmhgeaaaDoorW.PrintLast Go.Proofs.YtnkibbfpmhgeaaaDoorW.PrintMore
attribute [local go_sem] max2_int min2_int max_two min_two max_three min_three max_four min_four   -- for this text's walks alone
open Go.Proofs.YtnkibbfpmhgeaaaDoor.My
set_option linter.unusedVariables false
set_option linter.unusedSimpArgs false



def errW : Option Int → Value
 | none => .nilIface
 | some c => .iface 0 (.int .i64 c)
theorem errW_none : errW none = .nilIface := rfl
theorem errW_some (c : Int) : errW (some c) = .iface 0 (.int .i64 c) := rfl

theorem info4 : (Tryd.prog.info? 4).map (fun i => (i.zero, i.size, i.bytes)) = some (some (.bool false), 1, 1) := by kernel_rfl
-- the values' own types

end Go.Proofs.YtnkibbfpmhgeaaaDoor.PP
