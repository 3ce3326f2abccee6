/- YtmpngedfnheilaaDoorMyViewI, as far as ViewWhole needs it (prune.py). -/
import Derived.Test.YtmpngedfnheilaaDoorViewWholeMyViewH
import Derived.Lib.SlicesS
namespace Go.Proofs.YtmpngedfnheilaaDoor.PP
open Go.RowKit Go.Proofs.YtmpngedfnheilaaDoorW.PrintWords Go.Proofs.YtmpngedfnheilaaDoorW.PrintLast Go.Proofs.YtmpngedfnheilaaDoorW.PrintMore
open Go.Proofs.YtmpngedfnheilaaDoor.My
set_option linter.unusedVariables false
set_option linter.unusedSimpArgs false
theorem PRow.below {w w' : World} {N0 : Nat} {v : Value} {l : List Pl} (h : PRow w N0 v l) (hb : Below w.heap.size w w') : PRow w' N0 v l := h.keep (fun k hk => hb.block k (Kd.N_lt h k hk)) (fun k hk => hb.block k hk.lt)
theorem PRow.nil (w : World) (N0 : Nat) : PRow w N0 (.slice none 0 0) [] := Kd.N_nil _ _ _ _ _
end Go.Proofs.YtmpngedfnheilaaDoor.PP
