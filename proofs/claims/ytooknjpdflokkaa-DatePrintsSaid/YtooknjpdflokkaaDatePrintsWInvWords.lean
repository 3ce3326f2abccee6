/- YtooknjpdflokkaaWInvWords, as far as DatePrints needs it (prune.py). -/
import Derived.Test.YtooknjpdflokkaaDatePrintsWInv
import Derived.Test.YtooknjpdflokkaaDatePrintsWFootNe
namespace Go.Proofs.YtooknjpdflokkaaW.PrintWords
open Go.RowKit
end Go.Proofs.YtooknjpdflokkaaW.PrintWords
namespace Go.Proofs.YtooknjpdflokkaaW.PrintLast
section
variable {ops : Array Oper} {a : Act} {o og : Oper} {g : Nat} {t : Tmp} {u : Bool}
end
end Go.Proofs.YtooknjpdflokkaaW.PrintLast
