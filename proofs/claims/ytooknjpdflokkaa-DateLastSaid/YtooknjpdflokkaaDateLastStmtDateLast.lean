/- YtooknjpdflokkaaStmtDateLast, as far as DateLast needs it (prune.py). -/
import Derived.Test.YtooknjpdflokkaaDateLastPPx22
import Derived.Test.YtooknjpdflokkaaDateLastKindsPP
namespace Go.Proofs.Ytooknjpdflokkaa.PP
open Go.RowKit Go.Proofs.YtooknjpdflokkaaW.PrintWords
set_option linter.unusedVariables false
def haversacklaw09_DateLast.Pure2 : Prop := ∀ (l0 : List (S23)), l0.length ≤ maxLen → (∀ z ∈ l0, Q23 z) → ∃ k, haversacklaw09_DateLast.f k l0 = some true
end Go.Proofs.Ytooknjpdflokkaa.PP
