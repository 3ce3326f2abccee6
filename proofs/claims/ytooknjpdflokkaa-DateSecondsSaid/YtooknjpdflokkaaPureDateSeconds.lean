/-
  DateSeconds.
-/
import Derived.Test.YtooknjpdflokkaaStmtDateSeconds
import Derived.Test.YtooknjpdflokkaaMyDateC
namespace Go.Proofs.Ytooknjpdflokkaa.Pure
open Go.RowKit Go.Proofs.Ytooknjpdflokkaa.PP Go.Proofs.YtooknjpdflokkaaW.PrintWords Go.Proofs.YtooknjpdflokkaaW.PrintLast
set_option linter.unusedVariables false
theorem seconds_k (a0 a1 a2 a3 a4 a5 a6 u z : Int) (hu : (Lit.int .i64 u).wf = true) (hz : (Lit.int .i64 z).wf = true) : ∃ k, haversacklaw09_DateSeconds.f k a0 a1 a2 a3 a4 a5 a6 u z = some true := by
  refine ⟨10200, ?_⟩
  unfold haversacklaw09_DateSeconds.f
  rw [right_k (by omega), rright_k, unix_k (by omega), runix_k (by omega), alive_k (by omega)]
  obtain ⟨c, h1, h2⟩ := at_both (k := 10200) (by omega) u z (bd64 hu) (bd64 hz)
  rw [h1, h2]
  simp
theorem DateSeconds : haversacklaw09_DateSeconds.Pure2 := fun x0 a1 a2 _ h1 h2 => seconds_k x0.f0 x0.f1 x0.f2 x0.f3 x0.f4 x0.f5 x0.f6 a1 a2 h1 h2
end Go.Proofs.Ytooknjpdflokkaa.Pure
