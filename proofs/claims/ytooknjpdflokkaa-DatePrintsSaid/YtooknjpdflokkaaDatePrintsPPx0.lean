/- YtooknjpdflokkaaPPx0, as far as DatePrints needs it (prune.py). -/
import Derived.Test.YtooknjpdflokkaaProg
import Derived.Below
import Derived.Deep.Draws
import Derived.Deep.AppendLies
import Derived.Maps.AppendAt
import Derived.OwnWalk
import Derived.Laws.BytesArg
import Derived.Laws.MakeOwn
import Derived.Laws.OwnMore
import Derived.Deep.OwnRows
import Derived.Tactics
import Derived.Lib.ConvBytes
import Derived.Laws.Slices
import Derived.WalkKit
import Derived.KernelRfl
import Derived.RowKit3
import Derived.Deep.LoopGhost
import Derived.Deep.QuietTactic
import Derived.BigQuiet
import Derived.WideLaws
import Derived.Deep.DeepCutAuto
import Derived.Deep.CutBlock
import Derived.Deep.RegionHeld3
import Derived.Laws.Rows
import Derived.Lib.AppendStr
import Derived.ArgAppend
import Derived.Laws.IdiomCopy
import Derived.OrdersHeld
import Derived.Laws.BitsLemmas
import Derived.RowKit
import Derived.Test.YtooknjpdflokkaaDatePrintsMyRd
import Derived.IntWalk
import Derived.Defers
import Derived.Recover
import Derived.Laws.Pointers
import Derived.Test.YtooknjpdflokkaaDatePrintsWWords
import Derived.Test.YtooknjpdflokkaaDatePrintsWLast
import Derived.Test.YtooknjpdflokkaaDatePrintsWTab
import Derived.Test.YtooknjpdflokkaaDatePrintsWFour
import Derived.Test.YtooknjpdflokkaaDatePrintsWQPut
import Derived.Test.YtooknjpdflokkaaDatePrintsWApart
import Derived.Test.YtooknjpdflokkaaDatePrintsWArr
import Derived.Test.YtooknjpdflokkaaDatePrintsWZeros
import Derived.Test.YtooknjpdflokkaaDatePrintsWFoot
import Derived.Test.YtooknjpdflokkaaDatePrintsWKept
import Derived.Test.YtooknjpdflokkaaDatePrintsWShare
import Derived.Test.YtooknjpdflokkaaDatePrintsWN
import Derived.Test.YtooknjpdflokkaaDatePrintsWFootNe
import Derived.Test.YtooknjpdflokkaaDatePrintsWAt
import Derived.Test.YtooknjpdflokkaaDatePrintsWEqStruct
import Derived.Test.YtooknjpdflokkaaDatePrintsWRepsOne
import Derived.Test.YtooknjpdflokkaaDatePrintsWInv
import Derived.Test.YtooknjpdflokkaaDatePrintsWInvWords
import Derived.Test.YtooknjpdflokkaaDatePrintsWGuard
import Derived.Test.YtooknjpdflokkaaDatePrintsWNEv
import Derived.Test.YtooknjpdflokkaaDatePrintsWMore
namespace Go.Proofs.Ytooknjpdflokkaa.PP
open Go.RowKit Go.Proofs.YtooknjpdflokkaaW.PrintWords Go.Proofs.YtooknjpdflokkaaW.PrintLast Go.Proofs.YtooknjpdflokkaaW.PrintMore
attribute [local go_sem] max2_int min2_int max_two min_two max_three min_three max_four min_four   -- for this text's walks alone
open Go.Proofs.Ytooknjpdflokkaa.My
set_option linter.unusedVariables false
set_option linter.unusedSimpArgs false
def errW : Option Int → Value
  | none => .nilIface
  | some c => .iface 0 (.int .i64 c)
theorem errW_none : errW none = .nilIface := rfl
theorem errW_some (c : Int) : errW (some c) = .iface 0 (.int .i64 c) := rfl
theorem info5 : (Try.prog.info? 5).map (fun i => (i.zero, i.size, i.bytes)) = some (some (.int .u8 0), 1, 1) := by kernel_rfl
structure S23 where
  f0 : Int
  f1 : Int
  f2 : Int
  f3 : Int
  f4 : Int
  f5 : Int
  f6 : Int
def k23 : Kd S23 := Kd.iso (Kd.pair (Kd.int .i64) (Kd.pair (Kd.int .i64) (Kd.pair (Kd.int .i64) (Kd.pair (Kd.int .i64) (Kd.pair (Kd.int .i64) (Kd.pair (Kd.int .i64) (Kd.int .i64))))))) (fun x : S23 => (x.f0, x.f1, x.f2, x.f3, x.f4, x.f5, x.f6))
theorem k23_open {w : World} {x : S23} {cs : List Value} (h : k23.K w x cs) : cs = [.int .i64 x.f0, .int .i64 x.f1, .int .i64 x.f2, .int .i64 x.f3, .int .i64 x.f4, .int .i64 x.f5, .int .i64 x.f6] := by
  obtain ⟨_, _, rfl, rfl, ⟨_, _, rfl, rfl, ⟨_, _, rfl, rfl, ⟨_, _, rfl, rfl, ⟨_, _, rfl, rfl, ⟨_, _, rfl, rfl, rfl⟩⟩⟩⟩⟩⟩ := h
  exact rfl
end Go.Proofs.Ytooknjpdflokkaa.PP
