/- YtooknjpdflokkaaStmtDatePrints, as far as DatePrints needs it (prune.py). -/
import Derived.Test.YtooknjpdflokkaaDatePrintsPPx17
import Derived.Test.YtooknjpdflokkaaDatePrintsKindsPP
namespace Go.Proofs.Ytooknjpdflokkaa.PP
open Go.RowKit Go.Proofs.YtooknjpdflokkaaW.PrintWords
set_option linter.unusedVariables false
def haversacklaw09_DatePrints.Pure2 : Prop := ∀ (x0 : S23) (a1 : ByteArray), Q23 x0 → a1.size ≤ 140737488351232 → ∃ k, haversacklaw09_DatePrints.f k x0.f0 x0.f1 x0.f2 x0.f3 x0.f4 x0.f5 x0.f6 a1 = some true
end Go.Proofs.Ytooknjpdflokkaa.PP
