/- YtkngjdhggcaonaaDoorPPx43, as far as HeaderEnvelopes needs it (prune.py). -/
import Derived.Test.YtkngjdhggcaonaaDoorHeaderEnvelopesPPx0
import Derived.Test.YtkngjdhggcaonaaDoorHeaderEnvelopesPPx1
import Derived.Test.YtkngjdhggcaonaaDoorHeaderEnvelopesPPx16
import Derived.Test.YtkngjdhggcaonaaDoorHeaderEnvelopesPPx22
import Derived.Test.YtkngjdhggcaonaaDoorHeaderEnvelopesPPx39
import Derived.Test.YtkngjdhggcaonaaDoorHeaderEnvelopesPPx41
import Derived.Test.YtkngjdhggcaonaaDoorHeaderEnvelopesPPx42
namespace Go.Proofs.YtkngjdhggcaonaaDoor.PP
open Go.RowKit Go.Proofs.YtkngjdhggcaonaaDoorW.PrintWords Go.Proofs.YtkngjdhggcaonaaDoorW.PrintLast Go.Proofs.YtkngjdhggcaonaaDoorW.PrintMore
attribute [local go_sem] max2_int min2_int max_two min_two max_three min_three max_four min_four   -- for this text's walks alone
open Go.Proofs.YtkngjdhggcaonaaDoor.My
set_option linter.unusedVariables false
set_option linter.unusedSimpArgs false
def haversacklaw10_HeaderEnvelopes.f (k : Nat) (a0 : ByteArray) : Option (Bool) := if (a0.size : Int) > 4000 then ((haversacklaw10_alive.f k).bind fun t508 => (some t508)) else ((header_Fields.f k a0).bind fun t509 => ((header_Envelope.f k t509).bind fun bt512 => ((haversackref10_Fields.f k a0).bind fun t542 => ((haversackref10_Envelope.f k t542).bind fun bt545 => ((haversackref10_Same.f k bt512.1 bt512.2.1 bt512.2.2.1 bt512.2.2.2.1 bt512.2.2.2.2.1 bt512.2.2.2.2.2.1 bt512.2.2.2.2.2.2.1 bt512.2.2.2.2.2.2.2.1 bt512.2.2.2.2.2.2.2.2.1 bt512.2.2.2.2.2.2.2.2.2 bt545.1 bt545.2.1 bt545.2.2.1 bt545.2.2.2.1 bt545.2.2.2.2.1 bt545.2.2.2.2.2.1 bt545.2.2.2.2.2.2.1 bt545.2.2.2.2.2.2.2.1 bt545.2.2.2.2.2.2.2.2.1 bt545.2.2.2.2.2.2.2.2.2).bind fun t575 => (if t575 = true then ((haversacklaw10_alive.f k).bind fun t576 => (some t576)) else (some false)))))))
def haversacklaw10_HeaderEnvelopes.Pure : Prop := ∀ (a0 : ByteArray), a0.size ≤ 140737488351232 → ∃ k, haversacklaw10_HeaderEnvelopes.f k a0 = some true
end Go.Proofs.YtkngjdhggcaonaaDoor.PP
