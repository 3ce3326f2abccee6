import Derived.Test.YtkngjdhggcaonaaDoorPPx23
import Derived.Test.YtkngjdhggcaonaaDoorMyHeadO
namespace Go.Proofs.YtkngjdhggcaonaaDoor.Pure
open Go.RowKit Go.Proofs.YtkngjdhggcaonaaDoor.PP Go.Proofs.YtkngjdhggcaonaaDoor.My Go.Proofs.YtkngjdhggcaonaaDoorW.PrintWords Go.Proofs.YtkngjdhggcaonaaDoorW.PrintLast
set_option linter.unusedVariables false
set_option linter.unusedSimpArgs false
theorem HeaderCuts : haversacklaw10_HeaderCuts.Pure := by
  intro a0 _
  obtain ⟨s, rfl⟩ := isB a0
  have main : Ev (fun k => haversacklaw10_HeaderCuts.f k (B s)) true := by
    by_cases h1 : ((B s).size : Int) > 4000
    · exact Ev.same (fun k => by rw [haversacklaw10_HeaderCuts.f, if_pos h1]) (Ev.bd alive_ev (Ev.ret true))
    · have hs : s.length ≤ 1000000000 := by rw [bS] at h1; omega
      refine Ev.same (fun k => by rw [haversacklaw10_HeaderCuts.f, if_neg h1]) ?_
      refine Ev.bd (Cut_f_ev s hs) ?_
      refine Ev.bd (RCut_f_ev s hs) ?_
      simp only [if_true]
      refine Ev.bd (Fields_f_ev s hs) ?_
      refine Ev.bd (RFields_f_ev s hs) ?_
      refine Ev.bd (same_ev _ (fieldsL_len s hs)) ?_
      simp only [if_true]
      exact Ev.bd alive_ev (Ev.ret true)
  obtain ⟨K, hK⟩ := main
  exact ⟨K, hK K (Nat.le_refl _)⟩
end Go.Proofs.YtkngjdhggcaonaaDoor.Pure
