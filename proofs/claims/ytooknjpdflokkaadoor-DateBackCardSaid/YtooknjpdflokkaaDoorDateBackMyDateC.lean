/- YtooknjpdflokkaaDoorMyDateC, as far as DateBack needs it (prune.py). -/
import Derived.Test.YtooknjpdflokkaaDoorDateBackPPx9
import Derived.Test.YtooknjpdflokkaaDoorDateBackPPx11
import Derived.Test.YtooknjpdflokkaaDoorDateBackMyDateB
namespace Go.Proofs.YtooknjpdflokkaaDoor.Pure
open Go.RowKit Go.Proofs.YtooknjpdflokkaaDoor.PP Go.Proofs.YtooknjpdflokkaaDoorW.PrintWords Go.Proofs.YtooknjpdflokkaaDoorW.PrintLast
set_option linter.unusedVariables false
def unx (y m d h mi s z : Int) : Int := if rgt y m d h mi s z = true then num y m d * 86400 + h * 3600 + mi * 60 + s - z * 60 else 0
theorem rgt_vld {y m d h mi s z : Int} (hr : rgt y m d h mi s z = true) : vld y m d = true ∧ clk h mi s z = true := by
  unfold rgt at hr; simpa using hr
theorem unix_k {k : Nat} (hk : 14 ≤ k) (y m d h mi s z : Int) : date_Unix.f k y m d h mi s z = some (unx y m d h mi s z) := by
  unfold date_Unix.f unx
  rw [right_k (by omega)]
  simp only [Option.bind_some]
  by_cases hr : rgt y m d h mi s z = true
  · rw [if_pos hr, if_pos hr, days_k hk]
    simp only [Option.bind_some]
    obtain ⟨hv, hc⟩ := rgt_vld hr
    have hb := num_bd hv
    have hc := clk_iff.1 hc
    have hd : days y m d = num y m d := by unfold days; rw [if_pos hv]
    rw [hd, w64 (x := num y m d * 86400) (by omega), w64 (x := h * 3600) (by omega), w64 (x := num y m d * 86400 + h * 3600) (by omega), w64 (x := mi * 60) (by omega), w64 (x := num y m d * 86400 + h * 3600 + mi * 60) (by omega), w64 (x := num y m d * 86400 + h * 3600 + mi * 60 + s) (by omega), w64 (x := z * 60) (by omega), w64 (by omega)]
  · rw [if_neg hr, if_neg hr]
end Go.Proofs.YtooknjpdflokkaaDoor.Pure
