/-
  The pure statement of HeaderSplits. Printed by row2.py.
-/
import Derived.Test.YtkngjdhggcaonaaDoorPPx38
import Derived.Test.YtkngjdhggcaonaaDoorKindsPP
namespace Go.Proofs.YtkngjdhggcaonaaDoor.PP
open Go.RowKit Go.Proofs.YtkngjdhggcaonaaDoorW.PrintWords
set_option linter.unusedVariables false
def haversacklaw10_HeaderSplits.Pure2 : Prop := ∀ (a0 : ByteArray) (l1 : List ByteArray), a0.size ≤ 140737488351232 → l1.length ≤ maxLen → (∀ z ∈ l1, z.size ≤ maxLen) → ∃ k, haversacklaw10_HeaderSplits.f k a0 l1 = some true
end Go.Proofs.YtkngjdhggcaonaaDoor.PP
