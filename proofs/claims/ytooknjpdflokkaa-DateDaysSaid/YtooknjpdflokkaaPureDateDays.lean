/-
  DateDays: the number of any day, and the day of any number, are the document's, for every four int64 numbers: no condition.
-/
import Derived.Test.YtooknjpdflokkaaPPx15
import Derived.Test.YtooknjpdflokkaaMyDateA
namespace Go.Proofs.Ytooknjpdflokkaa.Pure
open Go.RowKit Go.Proofs.Ytooknjpdflokkaa.PP Go.Proofs.YtooknjpdflokkaaW.PrintWords Go.Proofs.YtooknjpdflokkaaW.PrintLast
set_option linter.unusedVariables false
theorem DateDays : haversacklaw09_DateDays.Pure := by
  intro a0 a1 a2 a3 h0 h1 h2 h3
  refine ⟨11000, ?_⟩
  unfold haversacklaw09_DateDays.f
  rw [days_k (by omega), rdays_k (by omega), alive_k (by omega)]
  simp only [Option.bind_some, if_true]
  rcases civil_k (k := 11000) (by omega) a3 (bd64 h3) with ⟨hr, hc⟩ | ⟨hr, hr', y, m, d, hc, hv, hn⟩
  · rcases rcivil_k (k := 11000) (by omega) a3 (bd64 h3) with ⟨hq, hd⟩ | ⟨hq, hq', y', m', d', hd, hv', hn'⟩
    · rw [hc, hd]; simp
    · omega
  · rcases rcivil_k (k := 11000) (by omega) a3 (bd64 h3) with ⟨hq, hd⟩ | ⟨hq, hq', y', m', d', hd, hv', hn'⟩
    · omega
    · obtain ⟨rfl, rfl, rfl⟩ := num_inj hv hv' (hn.trans hn'.symm)
      rw [hc, hd]; simp
end Go.Proofs.Ytooknjpdflokkaa.Pure
