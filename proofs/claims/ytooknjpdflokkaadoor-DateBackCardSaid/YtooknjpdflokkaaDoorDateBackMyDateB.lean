/- YtooknjpdflokkaaDoorMyDateB, as far as DateBack needs it (prune.py). -/
import Derived.Test.YtooknjpdflokkaaDoorDateBackPPx4
import Derived.Test.YtooknjpdflokkaaDoorDateBackPPx20
import Derived.Test.YtooknjpdflokkaaDoorDateBackMyDateA
namespace Go.Proofs.YtooknjpdflokkaaDoor.Pure
open Go.RowKit Go.Proofs.YtooknjpdflokkaaDoor.PP Go.Proofs.YtooknjpdflokkaaDoorW.PrintWords Go.Proofs.YtooknjpdflokkaaDoorW.PrintLast
set_option linter.unusedVariables false
def clk (h mi s z : Int) : Bool := decide (0 ≤ h ∧ h ≤ 23 ∧ 0 ≤ mi ∧ mi ≤ 59 ∧ 0 ≤ s ∧ s ≤ 59 ∧ -1439 ≤ z ∧ z ≤ 1439)
theorem clk_iff {h mi s z : Int} : clk h mi s z = true ↔ 0 ≤ h ∧ h ≤ 23 ∧ 0 ≤ mi ∧ mi ≤ 59 ∧ 0 ≤ s ∧ s ≤ 59 ∧ -1439 ≤ z ∧ z ≤ 1439 := by unfold clk; rw [decide_eq_true_iff]
theorem clk_no {h mi s z : Int} (n : ¬ (0 ≤ h ∧ h ≤ 23 ∧ 0 ≤ mi ∧ mi ≤ 59 ∧ 0 ≤ s ∧ s ≤ 59 ∧ -1439 ≤ z ∧ z ≤ 1439)) : clk h mi s z = false := by unfold clk; rw [decide_eq_false_iff_not]; exact n
def rgt (y m d h mi s z : Int) : Bool := vld y m d && clk h mi s z
theorem right_k {k : Nat} (hk : 1 ≤ k) (y m d h mi s z : Int) : date_Right.f k y m d h mi s z = some (rgt y m d h mi s z) := by
  unfold date_Right.f rgt
  simp only [there_k hk, Option.bind_some]
  by_cases h1 : h ≥ 0
  · by_cases h2 : h ≤ 23
    · by_cases h3 : mi ≥ 0
      · by_cases h4 : mi ≤ 59
        · by_cases h5 : s ≥ 0
          · rw [if_pos h1, if_pos h2, if_pos h3, if_pos h4, if_pos h5]
            cases vld y m d with
            | false => simp
            | true =>
              rw [if_pos rfl]
              by_cases h6 : s ≤ 59
              · rw [if_pos h6]
                by_cases h7 : z ≥ -1439
                · rw [if_pos h7]
                  by_cases h8 : z ≤ 1439
                  · rw [clk_iff.2 (by omega)]; simp [h8]
                  · rw [clk_no (by omega)]; simp [h8]
                · rw [if_neg h7, clk_no (by omega)]; simp
              · rw [if_neg h6, clk_no (by omega)]; simp
          · rw [if_pos h1, if_pos h2, if_pos h3, if_pos h4, if_neg h5, clk_no (by omega)]; simp
        · rw [if_pos h1, if_pos h2, if_pos h3, if_neg h4, clk_no (by omega)]; simp
      · rw [if_pos h1, if_pos h2, if_neg h3, clk_no (by omega)]; simp
    · rw [if_pos h1, if_neg h2, clk_no (by omega)]; simp
  · rw [if_neg h1, clk_no (by omega)]; simp
end Go.Proofs.YtooknjpdflokkaaDoor.Pure
