/- YtooknjpdflokkaaDoorPPx10, as far as DateMails needs it (prune.py). -/
import Derived.Test.YtooknjpdflokkaaDoorDateMailsPPx0
import Derived.Test.YtooknjpdflokkaaDoorDateMailsPPx2
namespace Go.Proofs.YtooknjpdflokkaaDoor.PP
open Go.RowKit Go.Proofs.YtooknjpdflokkaaDoorW.PrintWords Go.Proofs.YtooknjpdflokkaaDoorW.PrintLast Go.Proofs.YtooknjpdflokkaaDoorW.PrintMore
attribute [local go_sem] max2_int min2_int max_two min_two max_three min_three max_four min_four   -- for this text's walks alone
open Go.Proofs.YtooknjpdflokkaaDoor.My
set_option linter.unusedVariables false
set_option linter.unusedSimpArgs false
end Go.Proofs.YtooknjpdflokkaaDoor.PP
