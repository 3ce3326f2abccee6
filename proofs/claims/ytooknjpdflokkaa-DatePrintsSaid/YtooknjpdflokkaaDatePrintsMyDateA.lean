/- YtooknjpdflokkaaMyDateA, as far as DatePrints needs it (prune.py). -/
import Derived.Test.YtooknjpdflokkaaDatePrintsPPx9
import Derived.Test.YtooknjpdflokkaaDatePrintsPPx24
namespace Go.Proofs.Ytooknjpdflokkaa.Pure
open Go.RowKit Go.Proofs.Ytooknjpdflokkaa.PP Go.Proofs.YtooknjpdflokkaaW.PrintWords Go.Proofs.YtooknjpdflokkaaW.PrintLast
set_option linter.unusedVariables false
/-- Leap years' day; how many days a month has; the days ahead of a year; of a month; a day's number. -/
def lp (y : Int) : Int := if y % 400 = 0 ∨ (y % 4 = 0 ∧ y % 100 ≠ 0) then 1 else 0
theorem lp_01 (y : Int) : 0 ≤ lp y ∧ lp y ≤ 1 := by unfold lp; split <;> omega
def dim (y m : Int) : Int := if m = 4 ∨ m = 6 ∨ m = 9 ∨ m = 11 then 30 else if m = 2 then 28 + lp y else 31
def ahd (y : Int) : Int := 365 * (y - 1) + (y - 1) / 4 - (y - 1) / 100 + (y - 1) / 400
def cum (y m : Int) : Int :=
  if m ≤ 1 then 0 else if m = 2 then 31 else
    (if m = 3 then 59 else if m = 4 then 90 else if m = 5 then 120 else if m = 6 then 151 else if m = 7 then 181 else if m = 8 then 212 else if m = 9 then 243 else if m = 10 then 273 else if m = 11 then 304 else if m = 12 then 334 else 365) + lp y
def num (y m d : Int) : Int := ahd y + cum y m + d - 1 - 719162
def vld (y m d : Int) : Bool := decide (1 ≤ y ∧ y ≤ 9999 ∧ 1 ≤ m ∧ m ≤ 12 ∧ 1 ≤ d ∧ d ≤ dim y m)
theorem vld_iff {y m d : Int} : vld y m d = true ↔ 1 ≤ y ∧ y ≤ 9999 ∧ 1 ≤ m ∧ m ≤ 12 ∧ 1 ≤ d ∧ d ≤ dim y m := by unfold vld; rw [decide_eq_true_iff]
theorem dim_bd (y m : Int) : 28 ≤ dim y m ∧ dim y m ≤ 31 := by
  have := lp_01 y
  unfold dim; split
  · omega
  · split <;> omega
theorem w64 {x : Int} (h : -9223372036854775808 ≤ x ∧ x ≤ 9223372036854775807) : wrap64 x = x := by unfold wrap64; omega
theorem tm (y : Int) (n : Int) (h : 0 ≤ y) : Int.tmod y n = y % n := Int.tmod_eq_emod_of_nonneg h
theorem month_k {k : Nat} (hk : 1 ≤ k) {y : Int} (m : Int) (hy : 0 ≤ y) : date_month.f k y m = some (dim y m) := by
  obtain ⟨k, rfl⟩ : ∃ n, k = n + 1 := ⟨k - 1, by omega⟩
  unfold date_month.f dim lp
  simp only [date_month.j0, tm y _ hy]
  by_cases h4 : m = 4
  · subst h4; simp
  · by_cases h6 : m = 6
    · subst h6; simp
    · by_cases h9 : m = 9
      · subst h9; simp
      · by_cases h11 : m = 11
        · subst h11; simp
        · simp only [h4, h6, h9, h11, if_false, beq_iff_eq, or_self]
          by_cases h2 : m = 2
          · simp only [h2, if_true]
            by_cases a : y % 400 = 0
            · by_cases b : y % 4 = 0
              · by_cases c : y % 100 = 0 <;> simp [a, b, c]
              · omega
            · by_cases b : y % 4 = 0
              · by_cases c : y % 100 = 0 <;> simp [a, b, c]
              · simp [a, b]
          · simp [h2]
theorem there_k {k : Nat} (hk : 1 ≤ k) (y m d : Int) : date_there.f k y m d = some (vld y m d) := by
  unfold date_there.f vld
  by_cases h1 : y ≥ 1
  · rw [if_pos h1]
    by_cases h2 : y ≤ 9999
    · rw [if_pos h2]
      by_cases h3 : m ≥ 1
      · rw [if_pos h3]
        by_cases h4 : m ≤ 12
        · rw [if_pos h4]
          by_cases h5 : d ≥ 1
          · rw [if_pos h5, month_k hk m (by omega)]
            simp only [Option.bind_some]
            congr 1
            rw [decide_eq_decide]; omega
          · rw [if_neg h5]; congr 1; symm; rw [decide_eq_false_iff_not]; omega
        · rw [if_neg h4]; congr 1; symm; rw [decide_eq_false_iff_not]; omega
      · rw [if_neg h3]; congr 1; symm; rw [decide_eq_false_iff_not]; omega
    · rw [if_neg h2]; congr 1; symm; rw [decide_eq_false_iff_not]; omega
  · rw [if_neg h1]; congr 1; symm; rw [decide_eq_false_iff_not]; omega
def days (y m d : Int) : Int := if vld y m d = true then num y m d else 0
theorem rlong_k {y : Int} {m : Int} (hy : 0 ≤ y) (h1 : 1 ≤ m) (h2 : m ≤ 12) : haversackref09_Long.f y m = some (dim y m) := by
  unfold haversackref09_Long.f
  simp only [Option.bind_some]
  have e : m = 1 ∨ m = 2 ∨ m = 3 ∨ m = 4 ∨ m = 5 ∨ m = 6 ∨ m = 7 ∨ m = 8 ∨ m = 9 ∨ m = 10 ∨ m = 11 ∨ m = 12 := by omega
  have hl : haversackref09_Leap.f y = some (lp y == 1) := by
    unfold haversackref09_Leap.f lp
    simp only [tm y _ hy]
    by_cases a : y % 400 = 0
    · simp [a]
    · by_cases b : y % 4 = 0
      · by_cases c : y % 100 = 0 <;> simp [a, b, c]
      · simp [a, b]
  have h01 := lp_01 y
  rcases e with h | h | h | h | h | h | h | h | h | h | h | h <;> subst h
  case inr.inl =>
    rw [if_pos rfl, hl]
    simp only [Option.bind_some]
    by_cases z : lp y = 1
    · simp [z, dim]
    · have z0 : lp y = 0 := by omega
      simp [z0, dim]; decide +kernel
  all_goals (simp [dim]; decide +kernel)
theorem rthere_k (y m d : Int) : haversackref09_There.f y m d = some (vld y m d) := by
  unfold haversackref09_There.f vld
  by_cases h1 : y ≥ 1
  · rw [if_pos h1]
    by_cases h2 : y ≤ 9999
    · rw [if_pos h2]
      by_cases h3 : m ≥ 1
      · rw [if_pos h3]
        by_cases h4 : m ≤ 12
        · rw [if_pos h4]
          by_cases h5 : d ≥ 1
          · rw [if_pos h5, rlong_k (by omega) h3 h4]
            simp only [Option.bind_some]
            congr 1
            rw [decide_eq_decide]; omega
          · rw [if_neg h5]; congr 1; symm; rw [decide_eq_false_iff_not]; omega
        · rw [if_neg h4]; congr 1; symm; rw [decide_eq_false_iff_not]; omega
      · rw [if_neg h3]; congr 1; symm; rw [decide_eq_false_iff_not]; omega
    · rw [if_neg h2]; congr 1; symm; rw [decide_eq_false_iff_not]; omega
  · rw [if_neg h1]; congr 1; symm; rw [decide_eq_false_iff_not]; omega
theorem alive_60 : haversacklaw09_alive.f 60 = some true := by decide +kernel
theorem alive_k {k : Nat} (hk : 60 ≤ k) : haversacklaw09_alive.f k = some true := at_rounds haversacklaw09_alive.mono hk alive_60
end Go.Proofs.Ytooknjpdflokkaa.Pure
