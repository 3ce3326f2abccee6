/- YtmpngedfnheilaaDoorPPx20, as far as ViewWhole needs it (prune.py). -/
import Derived.Test.YtmpngedfnheilaaDoorViewWholePPx0
import Derived.Test.YtmpngedfnheilaaDoorViewWholePPx13
namespace Go.Proofs.YtmpngedfnheilaaDoor.PP
open Go.RowKit Go.Proofs.YtmpngedfnheilaaDoorW.PrintWords Go.Proofs.YtmpngedfnheilaaDoorW.PrintLast Go.Proofs.YtmpngedfnheilaaDoorW.PrintMore
attribute [local go_sem] max2_int min2_int max_two min_two max_three min_three max_four min_four   -- for this text's walks alone
open Go.Proofs.YtmpngedfnheilaaDoor.My
set_option linter.unusedVariables false
set_option linter.unusedSimpArgs false
end Go.Proofs.YtmpngedfnheilaaDoor.PP
