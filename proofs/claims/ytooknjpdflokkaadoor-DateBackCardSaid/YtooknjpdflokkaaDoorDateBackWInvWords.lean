/- YtooknjpdflokkaaDoorWInvWords, as far as DateBack needs it (prune.py). -/
import Derived.Test.YtooknjpdflokkaaDoorDateBackWInv
import Derived.Test.YtooknjpdflokkaaDoorDateBackWFootNe
namespace Go.Proofs.YtooknjpdflokkaaDoorW.PrintWords
open Go.RowKit
end Go.Proofs.YtooknjpdflokkaaDoorW.PrintWords
namespace Go.Proofs.YtooknjpdflokkaaDoorW.PrintLast
section
variable {ops : Array Oper} {a : Act} {o og : Oper} {g : Nat} {t : Tmp} {u : Bool}
end
end Go.Proofs.YtooknjpdflokkaaDoorW.PrintLast
