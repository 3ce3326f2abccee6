/-
  The pure statement of HeaderGets. Printed by row2.py.
-/
import Derived.Test.YtkngjdhggcaonaaDoorPPx37
import Derived.Test.YtkngjdhggcaonaaDoorKindsPP
namespace Go.Proofs.YtkngjdhggcaonaaDoor.PP
open Go.RowKit Go.Proofs.YtkngjdhggcaonaaDoorW.PrintWords
set_option linter.unusedVariables false
def haversacklaw10_HeaderGets.Pure2 : Prop := ∀ (a0 : ByteArray) (l1 : List (S37)) (a2 : Bool) (l3 : List ByteArray), a0.size ≤ 140737488351232 → l1.length ≤ maxLen → (∀ z ∈ l1, Q37 z) → l3.length ≤ maxLen → (∀ z ∈ l3, z.size ≤ maxLen) → ∃ k, haversacklaw10_HeaderGets.f k a0 l1 a2 l3 = some true
end Go.Proofs.YtkngjdhggcaonaaDoor.PP
