/-
  The pure statement of DateSeconds. Printed by row2.py.
-/
import Derived.Test.YtooknjpdflokkaaPPx17
import Derived.Test.YtooknjpdflokkaaKindsPP
namespace Go.Proofs.Ytooknjpdflokkaa.PP
open Go.RowKit Go.Proofs.YtooknjpdflokkaaW.PrintWords
set_option linter.unusedVariables false
def haversacklaw09_DateSeconds.Pure2 : Prop := ∀ (x0 : S23) (a1 : Int) (a2 : Int), Q23 x0 → (Lit.int .i64 a1).wf = true → (Lit.int .i64 a2).wf = true → ∃ k, haversacklaw09_DateSeconds.f k x0.f0 x0.f1 x0.f2 x0.f3 x0.f4 x0.f5 x0.f6 a1 a2 = some true
end Go.Proofs.Ytooknjpdflokkaa.PP
