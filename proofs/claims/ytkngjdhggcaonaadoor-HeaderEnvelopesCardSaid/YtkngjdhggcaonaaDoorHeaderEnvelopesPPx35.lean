/- YtkngjdhggcaonaaDoorPPx35, as far as HeaderEnvelopes needs it (prune.py). -/
import Derived.Test.YtkngjdhggcaonaaDoorHeaderEnvelopesPPx0
import Derived.Test.YtkngjdhggcaonaaDoorHeaderEnvelopesPPx1
import Derived.Test.YtkngjdhggcaonaaDoorHeaderEnvelopesPPx12
namespace Go.Proofs.YtkngjdhggcaonaaDoor.PP
open Go.RowKit Go.Proofs.YtkngjdhggcaonaaDoorW.PrintWords Go.Proofs.YtkngjdhggcaonaaDoorW.PrintLast Go.Proofs.YtkngjdhggcaonaaDoorW.PrintMore
attribute [local go_sem] max2_int min2_int max_two min_two max_three min_three max_four min_four   -- for this text's walks alone
open Go.Proofs.YtkngjdhggcaonaaDoor.My
set_option linter.unusedVariables false
set_option linter.unusedSimpArgs false
theorem IsB.later {b : Nat} {l : List UInt8} {w w' : World} (h : IsB b l w) (hb : Below w.heap.size w w') : IsB b l w' := by
 have hlt := h.lt'
 have hk := fun {v : Value} (x : w.ownsRowF b 5 1 v (Lib.byteCells l).length (Lib.byteCells l)) => x.kept (row := none) ⟨hb.os, hb.tape, hb.output, hb.size, fun k hk _ => hb.block k hk⟩ (Classical.em _)
 rcases h with ⟨h1, v, h2, h3, h4⟩ | ⟨h1, v, h2, h3, h4⟩
 ·
  exact .inl ⟨h1, v, (hb.block b hlt).trans h2, hk h3, h4⟩
 ·
  exact .inr ⟨h1, v, (hb.block b hlt).trans h2, hk h3, h4⟩
end Go.Proofs.YtkngjdhggcaonaaDoor.PP
