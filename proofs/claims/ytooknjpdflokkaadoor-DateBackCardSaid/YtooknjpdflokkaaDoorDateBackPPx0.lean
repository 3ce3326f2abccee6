/- YtooknjpdflokkaaDoorPPx0, as far as DateBack needs it (prune.py). -/
import Derived.Test.YtooknjpdflokkaaDoorProg
import Derived.Below
import Derived.Deep.Draws
import Derived.Deep.AppendLies
import Derived.Maps.AppendAt
import Derived.OwnWalk
import Derived.Laws.BytesArg
import Derived.Laws.MakeOwn
import Derived.Laws.OwnMore
import Derived.Deep.OwnRows
import Derived.Tactics
import Derived.Lib.ConvBytes
import Derived.Laws.Slices
import Derived.WalkKit
import Derived.KernelRfl
import Derived.RowKit3
import Derived.Deep.LoopGhost
import Derived.Deep.QuietTactic
import Derived.BigQuiet
import Derived.WideLaws
import Derived.Deep.DeepCutAuto
import Derived.Deep.CutBlock
import Derived.Deep.RegionHeld3
import Derived.Laws.Rows
import Derived.Lib.AppendStr
import Derived.ArgAppend
import Derived.Laws.IdiomCopy
import Derived.OrdersHeld
import Derived.Laws.BitsLemmas
import Derived.RowKit
import Derived.Test.YtooknjpdflokkaaDoorDateBackMyRd
import Derived.IntWalk
import Derived.Defers
import Derived.Recover
import Derived.Laws.Pointers
import Derived.Test.YtooknjpdflokkaaDoorDateBackMyShelfTrim
import Derived.Test.YtooknjpdflokkaaDoorDateBackWWords
import Derived.Test.YtooknjpdflokkaaDoorDateBackWLast
import Derived.Test.YtooknjpdflokkaaDoorDateBackWTab
import Derived.Test.YtooknjpdflokkaaDoorDateBackWFour
import Derived.Test.YtooknjpdflokkaaDoorDateBackWQPut
import Derived.Test.YtooknjpdflokkaaDoorDateBackWApart
import Derived.Test.YtooknjpdflokkaaDoorDateBackWArr
import Derived.Test.YtooknjpdflokkaaDoorDateBackWZeros
import Derived.Test.YtooknjpdflokkaaDoorDateBackWFoot
import Derived.Test.YtooknjpdflokkaaDoorDateBackWKept
import Derived.Test.YtooknjpdflokkaaDoorDateBackWShare
import Derived.Test.YtooknjpdflokkaaDoorDateBackWN
import Derived.Test.YtooknjpdflokkaaDoorDateBackWFootNe
import Derived.Test.YtooknjpdflokkaaDoorDateBackWAt
import Derived.Test.YtooknjpdflokkaaDoorDateBackWEqStruct
import Derived.Test.YtooknjpdflokkaaDoorDateBackWRepsOne
import Derived.Test.YtooknjpdflokkaaDoorDateBackWInv
import Derived.Test.YtooknjpdflokkaaDoorDateBackWInvWords
import Derived.Test.YtooknjpdflokkaaDoorDateBackWGuard
import Derived.Test.YtooknjpdflokkaaDoorDateBackWNEv
import Derived.Test.YtooknjpdflokkaaDoorDateBackWMore
namespace Go.Proofs.YtooknjpdflokkaaDoor.PP
open Go.RowKit Go.Proofs.YtooknjpdflokkaaDoorW.PrintWords Go.Proofs.YtooknjpdflokkaaDoorW.PrintLast Go.Proofs.YtooknjpdflokkaaDoorW.PrintMore
attribute [local go_sem] max2_int min2_int max_two min_two max_three min_three max_four min_four   -- for this text's walks alone
open Go.Proofs.YtooknjpdflokkaaDoor.My
set_option linter.unusedVariables false
set_option linter.unusedSimpArgs false
def errW : Option Int → Value
 | none => .nilIface
 | some c => .iface 0 (.int .i64 c)
theorem errW_none : errW none = .nilIface := rfl
theorem errW_some (c : Int) : errW (some c) = .iface 0 (.int .i64 c) := rfl
theorem info5 : (Tryd.prog.info? 5).map (fun i => (i.zero, i.size, i.bytes)) = some (some (.int .u8 0), 1, 1) := by kernel_rfl
structure S24 where
 f0 : Int
 f1 : Int
 f2 : Int
 f3 : Int
 f4 : Int
 f5 : Int
 f6 : Int
def k24 : Kd S24 := Kd.iso (Kd.pair (Kd.int .i64) (Kd.pair (Kd.int .i64) (Kd.pair (Kd.int .i64) (Kd.pair (Kd.int .i64) (Kd.pair (Kd.int .i64) (Kd.pair (Kd.int .i64) (Kd.int .i64))))))) (fun x : S24 => (x.f0, x.f1, x.f2, x.f3, x.f4, x.f5, x.f6))
theorem k24_open {w : World} {x : S24} {cs : List Value} (h : k24.K w x cs) : cs = [.int .i64 x.f0, .int .i64 x.f1, .int .i64 x.f2, .int .i64 x.f3, .int .i64 x.f4, .int .i64 x.f5, .int .i64 x.f6] := by
 obtain ⟨_, _, rfl, rfl, ⟨_, _, rfl, rfl, ⟨_, _, rfl, rfl, ⟨_, _, rfl, rfl, ⟨_, _, rfl, rfl, ⟨_, _, rfl, rfl, rfl⟩⟩⟩⟩⟩⟩ := h
 exact rfl
end Go.Proofs.YtooknjpdflokkaaDoor.PP
