/- YtooknjpdflokkaaDoorPPx0, as far as DateMails needs it (prune.py). -/
import Derived.Test.YtooknjpdflokkaaDoorProg
import Derived.Below
import Derived.Deep.Draws
import Derived.Deep.AppendLies
import Derived.Maps.AppendAt
import Derived.OwnWalk
import Derived.Laws.BytesArg
import Derived.Laws.MakeOwn
import Derived.Laws.OwnMore
import Derived.Deep.OwnRows
import Derived.Tactics
import Derived.Lib.ConvBytes
import Derived.Laws.Slices
import Derived.WalkKit
import Derived.KernelRfl
import Derived.RowKit3
import Derived.Deep.LoopGhost
import Derived.Deep.QuietTactic
import Derived.BigQuiet
import Derived.WideLaws
import Derived.Deep.DeepCutAuto
import Derived.Deep.CutBlock
import Derived.Deep.RegionHeld3
import Derived.Laws.Rows
import Derived.Lib.AppendStr
import Derived.ArgAppend
import Derived.Laws.IdiomCopy
import Derived.OrdersHeld
import Derived.Laws.BitsLemmas
import Derived.RowKit
import Derived.Test.YtooknjpdflokkaaDoorDateMailsMyRd
import Derived.IntWalk
import Derived.Defers
import Derived.Recover
import Derived.Laws.Pointers
import Derived.Test.YtooknjpdflokkaaDoorDateMailsMyShelfTrim
import Derived.Test.YtooknjpdflokkaaDoorDateMailsWWords
import Derived.Test.YtooknjpdflokkaaDoorDateMailsWLast
import Derived.Test.YtooknjpdflokkaaDoorDateMailsWTab
import Derived.Test.YtooknjpdflokkaaDoorDateMailsWFour
import Derived.Test.YtooknjpdflokkaaDoorDateMailsWQPut
import Derived.Test.YtooknjpdflokkaaDoorDateMailsWApart
import Derived.Test.YtooknjpdflokkaaDoorDateMailsWArr
import Derived.Test.YtooknjpdflokkaaDoorDateMailsWZeros
import Derived.Test.YtooknjpdflokkaaDoorDateMailsWFoot
import Derived.Test.YtooknjpdflokkaaDoorDateMailsWKept
import Derived.Test.YtooknjpdflokkaaDoorDateMailsWShare
import Derived.Test.YtooknjpdflokkaaDoorDateMailsWN
import Derived.Test.YtooknjpdflokkaaDoorDateMailsWFootNe
import Derived.Test.YtooknjpdflokkaaDoorDateMailsWAt
import Derived.Test.YtooknjpdflokkaaDoorDateMailsWEqStruct
import Derived.Test.YtooknjpdflokkaaDoorDateMailsWRepsOne
import Derived.Test.YtooknjpdflokkaaDoorDateMailsWInv
import Derived.Test.YtooknjpdflokkaaDoorDateMailsWInvWords
import Derived.Test.YtooknjpdflokkaaDoorDateMailsWGuard
import Derived.Test.YtooknjpdflokkaaDoorDateMailsWNEv
import Derived.Test.YtooknjpdflokkaaDoorDateMailsWMore
namespace Go.Proofs.YtooknjpdflokkaaDoor.PP
open Go.RowKit Go.Proofs.YtooknjpdflokkaaDoorW.PrintWords Go.Proofs.YtooknjpdflokkaaDoorW.PrintLast Go.Proofs.YtooknjpdflokkaaDoorW.PrintMore
attribute [local go_sem] max2_int min2_int max_two min_two max_three min_three max_four min_four   -- for this text's walks alone
open Go.Proofs.YtooknjpdflokkaaDoor.My
set_option linter.unusedVariables false
set_option linter.unusedSimpArgs false
def errW : Option Int → Value
 | none => .nilIface
 | some c => .iface 0 (.int .i64 c)
theorem errW_none : errW none = .nilIface := rfl
theorem errW_some (c : Int) : errW (some c) = .iface 0 (.int .i64 c) := rfl
theorem info5 : (Tryd.prog.info? 5).map (fun i => (i.zero, i.size, i.bytes)) = some (some (.int .u8 0), 1, 1) := by kernel_rfl
theorem info9 : (Tryd.prog.info? 9).map (fun i => (i.zero, i.size, i.bytes)) = some (some (.string ⟨#[]⟩), 1, 16) := by kernel_rfl
end Go.Proofs.YtooknjpdflokkaaDoor.PP
