/- YtooknjpdflokkaaDoorMyDateA, as far as DateMails needs it (prune.py). -/
import Derived.Test.YtooknjpdflokkaaDoorDateMailsPPx9
import Derived.Test.YtooknjpdflokkaaDoorDateMailsPPx22
import Derived.Test.YtooknjpdflokkaaDoorDateMailsPPx10
import Derived.Test.YtooknjpdflokkaaDoorDateMailsPPx4
import Derived.Test.YtooknjpdflokkaaDoorDateMailsPPx20
import Derived.Test.YtooknjpdflokkaaDoorDateMailsPPx8
import Derived.Test.YtooknjpdflokkaaDoorDateMailsPPx6
import Derived.Test.YtooknjpdflokkaaDoorDateMailsPPx19
import Derived.Test.YtooknjpdflokkaaDoorDateMailsPPx18
namespace Go.Proofs.YtooknjpdflokkaaDoor.Pure
open Go.RowKit Go.Proofs.YtooknjpdflokkaaDoor.PP Go.Proofs.YtooknjpdflokkaaDoorW.PrintWords Go.Proofs.YtooknjpdflokkaaDoorW.PrintLast
set_option linter.unusedVariables false
/-- Leap years' day; how many days a month has; the days ahead of a year; of a month; a day's number. -/
def lp (y : Int) : Int := if y % 400 = 0 ∨ (y % 4 = 0 ∧ y % 100 ≠ 0) then 1 else 0
theorem lp_01 (y : Int) : 0 ≤ lp y ∧ lp y ≤ 1 := by unfold lp; split <;> omega
def dim (y m : Int) : Int := if m = 4 ∨ m = 6 ∨ m = 9 ∨ m = 11 then 30 else if m = 2 then 28 + lp y else 31
def ahd (y : Int) : Int := 365 * (y - 1) + (y - 1) / 4 - (y - 1) / 100 + (y - 1) / 400
def cum (y m : Int) : Int :=
  if m ≤ 1 then 0 else if m = 2 then 31 else
    (if m = 3 then 59 else if m = 4 then 90 else if m = 5 then 120 else if m = 6 then 151 else if m = 7 then 181 else if m = 8 then 212 else if m = 9 then 243 else if m = 10 then 273 else if m = 11 then 304 else if m = 12 then 334 else 365) + lp y
def num (y m d : Int) : Int := ahd y + cum y m + d - 1 - 719162
def vld (y m d : Int) : Bool := decide (1 ≤ y ∧ y ≤ 9999 ∧ 1 ≤ m ∧ m ≤ 12 ∧ 1 ≤ d ∧ d ≤ dim y m)
theorem vld_iff {y m d : Int} : vld y m d = true ↔ 1 ≤ y ∧ y ≤ 9999 ∧ 1 ≤ m ∧ m ≤ 12 ∧ 1 ≤ d ∧ d ≤ dim y m := by unfold vld; rw [decide_eq_true_iff]
theorem dim_bd (y m : Int) : 28 ≤ dim y m ∧ dim y m ≤ 31 := by
  have := lp_01 y
  unfold dim; split
  · omega
  · split <;> omega
theorem ahd_succ (y : Int) : ahd (y + 1) = ahd y + 365 + lp y := by
  unfold ahd lp
  have e : y + 1 - 1 = y := by omega
  rw [e]
  split <;> omega
theorem ahd_mono {a b : Int} (h : a ≤ b) : ahd a ≤ ahd b := by
  obtain ⟨n, rfl⟩ : ∃ n : Nat, b = a + n := ⟨(b - a).toNat, by omega⟩
  clear h
  induction n with
  | zero => simp
  | succ n ih =>
    have := ahd_succ (a + n)
    have := lp_01 (a + n)
    have e : a + ((n + 1 : Nat) : Int) = a + n + 1 := by omega
    rw [e]; omega
theorem ahd_1 : ahd 1 = 0 := by decide
theorem ahd_10000 : ahd 10000 = 3652059 := by decide
theorem cum_1 (y : Int) : cum y 1 = 0 := by unfold cum; rw [if_pos (by omega)]
theorem cum_succ (y m : Int) (h1 : 1 ≤ m) (h2 : m ≤ 12) : cum y (m + 1) = cum y m + dim y m := by
  have : m = 1 ∨ m = 2 ∨ m = 3 ∨ m = 4 ∨ m = 5 ∨ m = 6 ∨ m = 7 ∨ m = 8 ∨ m = 9 ∨ m = 10 ∨ m = 11 ∨ m = 12 := by omega
  rcases this with h | h | h | h | h | h | h | h | h | h | h | h <;> subst h <;> simp [cum, dim] <;> omega
theorem w64 {x : Int} (h : -9223372036854775808 ≤ x ∧ x ≤ 9223372036854775807) : wrap64 x = x := by unfold wrap64; omega
theorem tm (y : Int) (n : Int) (h : 0 ≤ y) : Int.tmod y n = y % n := Int.tmod_eq_emod_of_nonneg h
theorem month_k {k : Nat} (hk : 1 ≤ k) {y : Int} (m : Int) (hy : 0 ≤ y) : date_month.f k y m = some (dim y m) := by
  obtain ⟨k, rfl⟩ : ∃ n, k = n + 1 := ⟨k - 1, by omega⟩
  unfold date_month.f dim lp
  simp only [date_month.j0, tm y _ hy]
  by_cases h4 : m = 4
  · subst h4; simp
  · by_cases h6 : m = 6
    · subst h6; simp
    · by_cases h9 : m = 9
      · subst h9; simp
      · by_cases h11 : m = 11
        · subst h11; simp
        · simp only [h4, h6, h9, h11, if_false, beq_iff_eq, or_self]
          by_cases h2 : m = 2
          · simp only [h2, if_true]
            by_cases a : y % 400 = 0
            · by_cases b : y % 4 = 0
              · by_cases c : y % 100 = 0 <;> simp [a, b, c]
              · omega
            · by_cases b : y % 4 = 0
              · by_cases c : y % 100 = 0 <;> simp [a, b, c]
              · simp [a, b]
          · simp [h2]
theorem there_k {k : Nat} (hk : 1 ≤ k) (y m d : Int) : date_there.f k y m d = some (vld y m d) := by
  unfold date_there.f vld
  by_cases h1 : y ≥ 1
  · rw [if_pos h1]
    by_cases h2 : y ≤ 9999
    · rw [if_pos h2]
      by_cases h3 : m ≥ 1
      · rw [if_pos h3]
        by_cases h4 : m ≤ 12
        · rw [if_pos h4]
          by_cases h5 : d ≥ 1
          · rw [if_pos h5, month_k hk m (by omega)]
            simp only [Option.bind_some]
            congr 1
            rw [decide_eq_decide]; omega
          · rw [if_neg h5]; congr 1; symm; rw [decide_eq_false_iff_not]; omega
        · rw [if_neg h4]; congr 1; symm; rw [decide_eq_false_iff_not]; omega
      · rw [if_neg h3]; congr 1; symm; rw [decide_eq_false_iff_not]; omega
    · rw [if_neg h2]; congr 1; symm; rw [decide_eq_false_iff_not]; omega
  · rw [if_neg h1]; congr 1; symm; rw [decide_eq_false_iff_not]; omega
theorem ahead_k {y : Int} (h : 1 ≤ y) (h' : y ≤ 10000) : date_ahead.f y = some (ahd y) := by
  unfold date_ahead.f ahd
  rw [w64 (x := y - 1) (by omega)]
  have e4 := Int.tdiv_eq_ediv_of_nonneg (a := y - 1) (b := 4) (by omega)
  have e100 := Int.tdiv_eq_ediv_of_nonneg (a := y - 1) (b := 100) (by omega)
  have e400 := Int.tdiv_eq_ediv_of_nonneg (a := y - 1) (b := 400) (by omega)
  rw [e4, e100, e400, w64 (x := 365 * (y - 1)) (by omega), w64 (x := (y - 1) / 4) (by omega), w64 (x := (y - 1) / 100) (by omega), w64 (x := (y - 1) / 400) (by omega), w64 (x := 365 * (y - 1) + (y - 1) / 4) (by omega), w64 (x := 365 * (y - 1) + (y - 1) / 4 - (y - 1) / 100) (by omega), w64 (by omega)]
theorem ahd_bd {y : Int} (h : 1 ≤ y) (h' : y ≤ 10000) : 0 ≤ ahd y ∧ ahd y ≤ 3652059 := by
  have a := ahd_mono h; have b := ahd_mono h'
  rw [ahd_1] at a; rw [ahd_10000] at b; exact ⟨a, b⟩
theorem days_l (y m : Int) (hy : 1 ≤ y) (hm : m ≤ 12) (t : Nat) : ∀ (k : Nat) (n j : Int), t + 1 < k → 1 ≤ j → m - j = t → -4000000 ≤ n → n ≤ 4000000 + 31 * j → date_Days.l0 k y m n j = some (n + (cum y m - cum y j) - 719162) := by
  induction t with
  | zero =>
    intro k n j hk hj e h0 h1
    obtain ⟨k, rfl⟩ : ∃ n, k = n + 1 := ⟨k - 1, by omega⟩
    obtain rfl : j = m := by omega
    simp only [date_Days.l0]
    rw [if_neg (by omega), w64 (by omega)]
    congr 1; omega
  | succ t ih =>
    intro k n j hk hj e h0 h1
    obtain ⟨k, rfl⟩ : ∃ n, k = n + 1 := ⟨k - 1, by omega⟩
    simp only [date_Days.l0]
    have hd := dim_bd y j
    rw [if_pos (by omega), month_k (by omega) j (by omega)]
    simp only [Option.bind_some]
    rw [w64 (x := n + dim y j) (by omega), w64 (x := j + 1) (by omega), ih k _ (j + 1) (by omega) (by omega) (by omega) (by omega) (by omega), cum_succ y j hj (by omega)]
    congr 1; omega
def days (y m d : Int) : Int := if vld y m d = true then num y m d else 0
theorem days_k {k : Nat} (hk : 14 ≤ k) (y m d : Int) : date_Days.f k y m d = some (days y m d) := by
  unfold date_Days.f days
  rw [there_k (by omega)]
  simp only [Option.bind_some]
  by_cases h : vld y m d = true
  · rw [if_pos h, if_pos h]
    obtain ⟨a, b, c, e, f, g⟩ := vld_iff.1 h
    have hd := dim_bd y m
    have ha := ahd_bd a (by omega)
    rw [ahead_k a (by omega)]
    simp only [Option.bind_some]
    rw [w64 (x := ahd y + d) (by omega), w64 (by omega), days_l y m a e (m - 1).toNat k _ 1 (by omega) (by omega) (by omega) (by omega) (by omega), cum_1]
    unfold num; congr 1; omega
  · rw [if_neg h, if_neg h]
theorem rlong_k {y : Int} {m : Int} (hy : 0 ≤ y) (h1 : 1 ≤ m) (h2 : m ≤ 12) : haversackref09_Long.f y m = some (dim y m) := by
  unfold haversackref09_Long.f
  simp only [Option.bind_some]
  have e : m = 1 ∨ m = 2 ∨ m = 3 ∨ m = 4 ∨ m = 5 ∨ m = 6 ∨ m = 7 ∨ m = 8 ∨ m = 9 ∨ m = 10 ∨ m = 11 ∨ m = 12 := by omega
  have hl : haversackref09_Leap.f y = some (lp y == 1) := by
    unfold haversackref09_Leap.f lp
    simp only [tm y _ hy]
    by_cases a : y % 400 = 0
    · simp [a]
    · by_cases b : y % 4 = 0
      · by_cases c : y % 100 = 0 <;> simp [a, b, c]
      · simp [a, b]
  have h01 := lp_01 y
  rcases e with h | h | h | h | h | h | h | h | h | h | h | h <;> subst h
  case inr.inl =>
    rw [if_pos rfl, hl]
    simp only [Option.bind_some]
    by_cases z : lp y = 1
    · simp [z, dim]
    · have z0 : lp y = 0 := by omega
      simp [z0, dim]; decide +kernel
  all_goals (simp [dim]; decide +kernel)
theorem rthere_k (y m d : Int) : haversackref09_There.f y m d = some (vld y m d) := by
  unfold haversackref09_There.f vld
  by_cases h1 : y ≥ 1
  · rw [if_pos h1]
    by_cases h2 : y ≤ 9999
    · rw [if_pos h2]
      by_cases h3 : m ≥ 1
      · rw [if_pos h3]
        by_cases h4 : m ≤ 12
        · rw [if_pos h4]
          by_cases h5 : d ≥ 1
          · rw [if_pos h5, rlong_k (by omega) h3 h4]
            simp only [Option.bind_some]
            congr 1
            rw [decide_eq_decide]; omega
          · rw [if_neg h5]; congr 1; symm; rw [decide_eq_false_iff_not]; omega
        · rw [if_neg h4]; congr 1; symm; rw [decide_eq_false_iff_not]; omega
      · rw [if_neg h3]; congr 1; symm; rw [decide_eq_false_iff_not]; omega
    · rw [if_neg h2]; congr 1; symm; rw [decide_eq_false_iff_not]; omega
  · rw [if_neg h1]; congr 1; symm; rw [decide_eq_false_iff_not]; omega
theorem rahead_k {y : Int} (h : 1 ≤ y) (h' : y ≤ 10000) : haversackref09_ahead.f y = some (ahd y) := ahead_k h h'
theorem rdays_l (y m : Int) (hy : 1 ≤ y) (hm : m ≤ 12) (t : Nat) : ∀ (k : Nat) (n j : Int), t + 1 < k → 1 ≤ j → m - j = t → -4000000 ≤ n → n ≤ 4000000 + 31 * j → haversackref09_Days.l0 k y m n j = some (n + (cum y m - cum y j)) := by
  induction t with
  | zero =>
    intro k n j hk hj e h0 h1
    obtain ⟨k, rfl⟩ : ∃ n, k = n + 1 := ⟨k - 1, by omega⟩
    obtain rfl : j = m := by omega
    simp only [haversackref09_Days.l0]
    rw [if_neg (by omega)]
    congr 1; omega
  | succ t ih =>
    intro k n j hk hj e h0 h1
    obtain ⟨k, rfl⟩ : ∃ n, k = n + 1 := ⟨k - 1, by omega⟩
    simp only [haversackref09_Days.l0]
    have hd := dim_bd y j
    rw [if_pos (by omega), rlong_k (by omega) hj (by omega)]
    simp only [Option.bind_some]
    rw [w64 (x := n + dim y j) (by omega), w64 (x := j + 1) (by omega), ih k _ (j + 1) (by omega) (by omega) (by omega) (by omega) (by omega), cum_succ y j hj (by omega)]
    congr 1; omega
theorem rdays_k {k : Nat} (hk : 14 ≤ k) (y m d : Int) : haversackref09_Days.f k y m d = some (days y m d) := by
  unfold haversackref09_Days.f days
  rw [rthere_k]
  simp only [Option.bind_some]
  by_cases h : vld y m d = true
  · rw [if_pos h, if_pos h]
    obtain ⟨a, b, c, e, f, g⟩ := vld_iff.1 h
    have hd := dim_bd y m
    have ha := ahd_bd a (by omega)
    have h1970 : haversackref09_ahead.f 1970 = some 719162 := by decide +kernel
    rw [rahead_k a (by omega), h1970]
    simp only [Option.bind_some]
    rw [w64 (x := ahd y - 719162) (by omega), w64 (x := ahd y - 719162 + d) (by omega), w64 (by omega), rdays_l y m a e (m - 1).toNat k _ 1 (by omega) (by omega) (by omega) (by omega) (by omega), cum_1]
    unfold num; congr 1; omega
  · rw [if_neg h, if_neg h]
theorem alive_60 : haversacklaw09_alive.f 60 = some true := by decide +kernel
theorem alive_k {k : Nat} (hk : 60 ≤ k) : haversacklaw09_alive.f k = some true := at_rounds haversacklaw09_alive.mono hk alive_60
end Go.Proofs.YtooknjpdflokkaaDoor.Pure

/- YtooknjpdflokkaaDoorMyDateB, as far as DateMails needs it (prune.py). -/
namespace Go.Proofs.YtooknjpdflokkaaDoor.Pure
open Go.RowKit Go.Proofs.YtooknjpdflokkaaDoor.PP Go.Proofs.YtooknjpdflokkaaDoorW.PrintWords Go.Proofs.YtooknjpdflokkaaDoorW.PrintLast
set_option linter.unusedVariables false
def clk (h mi s z : Int) : Bool := decide (0 ≤ h ∧ h ≤ 23 ∧ 0 ≤ mi ∧ mi ≤ 59 ∧ 0 ≤ s ∧ s ≤ 59 ∧ -1439 ≤ z ∧ z ≤ 1439)
theorem clk_iff {h mi s z : Int} : clk h mi s z = true ↔ 0 ≤ h ∧ h ≤ 23 ∧ 0 ≤ mi ∧ mi ≤ 59 ∧ 0 ≤ s ∧ s ≤ 59 ∧ -1439 ≤ z ∧ z ≤ 1439 := by unfold clk; rw [decide_eq_true_iff]
theorem clk_no {h mi s z : Int} (n : ¬ (0 ≤ h ∧ h ≤ 23 ∧ 0 ≤ mi ∧ mi ≤ 59 ∧ 0 ≤ s ∧ s ≤ 59 ∧ -1439 ≤ z ∧ z ≤ 1439)) : clk h mi s z = false := by unfold clk; rw [decide_eq_false_iff_not]; exact n
def rgt (y m d h mi s z : Int) : Bool := vld y m d && clk h mi s z
theorem right_k {k : Nat} (hk : 1 ≤ k) (y m d h mi s z : Int) : date_Right.f k y m d h mi s z = some (rgt y m d h mi s z) := by
  unfold date_Right.f rgt
  simp only [there_k hk, Option.bind_some]
  by_cases h1 : h ≥ 0
  · by_cases h2 : h ≤ 23
    · by_cases h3 : mi ≥ 0
      · by_cases h4 : mi ≤ 59
        · by_cases h5 : s ≥ 0
          · rw [if_pos h1, if_pos h2, if_pos h3, if_pos h4, if_pos h5]
            cases vld y m d with
            | false => simp
            | true =>
              rw [if_pos rfl]
              by_cases h6 : s ≤ 59
              · rw [if_pos h6]
                by_cases h7 : z ≥ -1439
                · rw [if_pos h7]
                  by_cases h8 : z ≤ 1439
                  · rw [clk_iff.2 (by omega)]; simp [h8]
                  · rw [clk_no (by omega)]; simp [h8]
                · rw [if_neg h7, clk_no (by omega)]; simp
              · rw [if_neg h6, clk_no (by omega)]; simp
          · rw [if_pos h1, if_pos h2, if_pos h3, if_pos h4, if_neg h5, clk_no (by omega)]; simp
        · rw [if_pos h1, if_pos h2, if_pos h3, if_neg h4, clk_no (by omega)]; simp
      · rw [if_pos h1, if_pos h2, if_neg h3, clk_no (by omega)]; simp
    · rw [if_pos h1, if_neg h2, clk_no (by omega)]; simp
  · rw [if_neg h1, clk_no (by omega)]; simp
theorem rin (a lo hi : Int) : haversackref09_in.f a lo hi = some (decide (lo ≤ a ∧ a ≤ hi)) := by
  unfold haversackref09_in.f
  by_cases h : a ≥ lo
  · rw [if_pos h]; congr 1; rw [decide_eq_decide]; omega
  · rw [if_neg h]; congr 1; symm; rw [decide_eq_false_iff_not]; omega
theorem rright_k (y m d h mi s z : Int) : haversackref09_Right.f y m d h mi s z = some (rgt y m d h mi s z) := by
  unfold haversackref09_Right.f rgt
  simp only [rthere_k, rin, Option.bind_some]
  cases vld y m d with
  | false => rfl
  | true =>
    rw [if_pos rfl, Bool.true_and]
    by_cases h1 : 0 ≤ h ∧ h ≤ 23
    · rw [decide_eq_true h1, if_pos rfl]
      by_cases h2 : 0 ≤ mi ∧ mi ≤ 59
      · rw [decide_eq_true h2, if_pos rfl]
        by_cases h3 : 0 ≤ s ∧ s ≤ 59
        · rw [decide_eq_true h3, if_pos rfl]
          congr 1; unfold clk; rw [decide_eq_decide]; omega
        · rw [decide_eq_false h3, if_neg (by simp), clk_no (by omega)]
      · rw [decide_eq_false h2, if_neg (by simp), clk_no (by omega)]
    · rw [decide_eq_false h1, if_neg (by simp), clk_no (by omega)]
end Go.Proofs.YtooknjpdflokkaaDoor.Pure

/- YtooknjpdflokkaaDoorMyDateP, as far as DateMails needs it (prune.py). -/
namespace Go.Proofs.YtooknjpdflokkaaDoor.Pure
open Go.RowKit Go.Proofs.YtooknjpdflokkaaDoor.PP Go.Proofs.YtooknjpdflokkaaDoor.My Go.Proofs.YtooknjpdflokkaaDoorW.PrintWords Go.Proofs.YtooknjpdflokkaaDoorW.PrintLast
set_option linter.unusedVariables false
set_option linter.unusedSimpArgs false
/-- A month's letters; a zone; a date's text. -/
def mon (m : Int) : List UInt8 := (monthsL.drop (3 * (m - 1)).toNat).take 3
theorem mon_cut {m : Int} (h1 : 1 ≤ m) (h2 : m ≤ 12) : ∃ a b c, mon m = [a, b, c] ∧ (⟨#[74, 97, 110, 70, 101, 98, 77, 97, 114, 65, 112, 114, 77, 97, 121, 74, 117, 110, 74, 117, 108, 65, 117, 103, 83, 101, 112, 79, 99, 116, 78, 111, 118, 68, 101, 99]⟩ : ByteArray).extract ((wrap64 ((wrap64 (3 * m)) - 3)) : Int).toNat ((wrap64 (3 * m)) : Int).toNat = ⟨#[a, b, c]⟩ ∧ haversackref09_Months.f m = some ⟨#[a, b, c]⟩ := by
  have : m = 1 ∨ m = 2 ∨ m = 3 ∨ m = 4 ∨ m = 5 ∨ m = 6 ∨ m = 7 ∨ m = 8 ∨ m = 9 ∨ m = 10 ∨ m = 11 ∨ m = 12 := by omega
  rcases this with rfl | rfl | rfl | rfl | rfl | rfl | rfl | rfl | rfl | rfl | rfl | rfl <;> exact ⟨_, _, _, rfl, by decide +kernel, by decide +kernel⟩
theorem ba_append (a b : List UInt8) : (⟨a.toArray⟩ : ByteArray) ++ ⟨b.toArray⟩ = ⟨(a ++ b).toArray⟩ := by
  apply ByteArray.ext; simp
theorem number2 {a b : UInt8} (ha : isDig a = true) (hb : isDig b = true) (r : List UInt8) : numberL 2 2 (a :: b :: r) = some (10 * ((a.toNat : Int) - 48) + ((b.toNat : Int) - 48), r) := by
  simp [numberL, digs, valL, ha, hb]
theorem btl (l : List UInt8) (i : Int) (h0 : 0 ≤ i) (h : i < l.length) : bt ⟨l.toArray⟩ i = ((l[i.toNat]'(by omega)).toNat : Int) := by
  have := ba_bt l i.toNat (by omega)
  rw [Int.toNat_of_nonneg h0] at this
  exact this
theorem dig_bt {a : UInt8} (h : isDig a = true) : ¬ (a.toNat : Int) < 48 ∧ ¬ (a.toNat : Int) > 57 := by
  unfold isDig at h
  simp only [Bool.and_eq_true, decide_eq_true_eq, UInt8.le_iff_toNat_le] at h
  have e1 : (48 : UInt8).toNat = 48 := rfl
  have e2 : (57 : UInt8).toNat = 57 := rfl
  omega
theorem lower_some (l : List UInt8) (hl : l.length ≤ 1000000) : haversackref09_Lower.f ⟨l.toArray⟩ = some ⟨(lowL l).toArray⟩ := by
  unfold haversackref09_Lower.f
  rw [if_pos (by rw [ba_size]; omega)]
end Go.Proofs.YtooknjpdflokkaaDoor.Pure
