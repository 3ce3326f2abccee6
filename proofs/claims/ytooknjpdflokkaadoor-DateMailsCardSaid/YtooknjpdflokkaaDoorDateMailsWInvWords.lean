/- YtooknjpdflokkaaDoorWInvWords, as far as DateMails needs it (prune.py). -/
import Derived.Test.YtooknjpdflokkaaDoorDateMailsWInv
import Derived.Test.YtooknjpdflokkaaDoorDateMailsWFootNe
namespace Go.Proofs.YtooknjpdflokkaaDoorW.PrintWords
open Go.RowKit
end Go.Proofs.YtooknjpdflokkaaDoorW.PrintWords
namespace Go.Proofs.YtooknjpdflokkaaDoorW.PrintLast
section
variable {ops : Array Oper} {a : Act} {o og : Oper} {g : Nat} {t : Tmp} {u : Bool}
end
end Go.Proofs.YtooknjpdflokkaaDoorW.PrintLast
