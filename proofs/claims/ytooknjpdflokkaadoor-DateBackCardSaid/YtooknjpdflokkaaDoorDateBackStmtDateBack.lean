/- YtooknjpdflokkaaDoorStmtDateBack, as far as DateBack needs it (prune.py). -/
import Derived.Test.YtooknjpdflokkaaDoorDateBackMyBack
import Derived.Test.YtooknjpdflokkaaDoorDateBackKindsPP
namespace Go.Proofs.YtooknjpdflokkaaDoor.PP
open Go.RowKit Go.Proofs.YtooknjpdflokkaaDoorW.PrintWords
set_option linter.unusedVariables false
def haversacklaw09_DateBack.Pure2 : Prop := ∀ (x0 : S24) (a1 : ByteArray), Q24 x0 → a1.size ≤ 140737488351232 → ∃ k, haversacklaw09_DateBack.f k x0.f0 x0.f1 x0.f2 x0.f3 x0.f4 x0.f5 x0.f6 a1 = some true
end Go.Proofs.YtooknjpdflokkaaDoor.PP
