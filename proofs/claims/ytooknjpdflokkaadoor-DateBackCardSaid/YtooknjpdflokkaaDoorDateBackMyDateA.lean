/- YtooknjpdflokkaaDoorMyDateA, as far as DateBack needs it (prune.py). -/
import Derived.Test.YtooknjpdflokkaaDoorDateBackPPx9
import Derived.Test.YtooknjpdflokkaaDoorDateBackPPx22
import Derived.Test.YtooknjpdflokkaaDoorDateBackPPx10
namespace Go.Proofs.YtooknjpdflokkaaDoor.Pure
open Go.RowKit Go.Proofs.YtooknjpdflokkaaDoor.PP Go.Proofs.YtooknjpdflokkaaDoorW.PrintWords Go.Proofs.YtooknjpdflokkaaDoorW.PrintLast
set_option linter.unusedVariables false
/-- Leap years' day; how many days a month has; the days ahead of a year; of a month; a day's number. -/
def lp (y : Int) : Int := if y % 400 = 0 ∨ (y % 4 = 0 ∧ y % 100 ≠ 0) then 1 else 0
theorem lp_01 (y : Int) : 0 ≤ lp y ∧ lp y ≤ 1 := by unfold lp; split <;> omega
def dim (y m : Int) : Int := if m = 4 ∨ m = 6 ∨ m = 9 ∨ m = 11 then 30 else if m = 2 then 28 + lp y else 31
def ahd (y : Int) : Int := 365 * (y - 1) + (y - 1) / 4 - (y - 1) / 100 + (y - 1) / 400
def cum (y m : Int) : Int :=
  if m ≤ 1 then 0 else if m = 2 then 31 else
    (if m = 3 then 59 else if m = 4 then 90 else if m = 5 then 120 else if m = 6 then 151 else if m = 7 then 181 else if m = 8 then 212 else if m = 9 then 243 else if m = 10 then 273 else if m = 11 then 304 else if m = 12 then 334 else 365) + lp y
def num (y m d : Int) : Int := ahd y + cum y m + d - 1 - 719162
def vld (y m d : Int) : Bool := decide (1 ≤ y ∧ y ≤ 9999 ∧ 1 ≤ m ∧ m ≤ 12 ∧ 1 ≤ d ∧ d ≤ dim y m)
theorem vld_iff {y m d : Int} : vld y m d = true ↔ 1 ≤ y ∧ y ≤ 9999 ∧ 1 ≤ m ∧ m ≤ 12 ∧ 1 ≤ d ∧ d ≤ dim y m := by unfold vld; rw [decide_eq_true_iff]
theorem dim_bd (y m : Int) : 28 ≤ dim y m ∧ dim y m ≤ 31 := by
  have := lp_01 y
  unfold dim; split
  · omega
  · split <;> omega
theorem ahd_succ (y : Int) : ahd (y + 1) = ahd y + 365 + lp y := by
  unfold ahd lp
  have e : y + 1 - 1 = y := by omega
  rw [e]
  split <;> omega
theorem ahd_mono {a b : Int} (h : a ≤ b) : ahd a ≤ ahd b := by
  obtain ⟨n, rfl⟩ : ∃ n : Nat, b = a + n := ⟨(b - a).toNat, by omega⟩
  clear h
  induction n with
  | zero => simp
  | succ n ih =>
    have := ahd_succ (a + n)
    have := lp_01 (a + n)
    have e : a + ((n + 1 : Nat) : Int) = a + n + 1 := by omega
    rw [e]; omega
theorem ahd_1 : ahd 1 = 0 := by decide
theorem ahd_10000 : ahd 10000 = 3652059 := by decide
theorem cum_1 (y : Int) : cum y 1 = 0 := by unfold cum; rw [if_pos (by omega)]
theorem cum_succ (y m : Int) (h1 : 1 ≤ m) (h2 : m ≤ 12) : cum y (m + 1) = cum y m + dim y m := by
  have : m = 1 ∨ m = 2 ∨ m = 3 ∨ m = 4 ∨ m = 5 ∨ m = 6 ∨ m = 7 ∨ m = 8 ∨ m = 9 ∨ m = 10 ∨ m = 11 ∨ m = 12 := by omega
  rcases this with h | h | h | h | h | h | h | h | h | h | h | h <;> subst h <;> simp [cum, dim] <;> omega
theorem cum_13 (y : Int) : cum y 13 = 365 + lp y := by simp [cum]
theorem cum_mono (y : Int) {a b : Int} (h0 : 1 ≤ a) (h : a ≤ b) (h1 : b ≤ 13) : cum y a ≤ cum y b := by
  obtain ⟨n, rfl⟩ : ∃ n : Nat, b = a + n := ⟨(b - a).toNat, by omega⟩
  clear h
  induction n with
  | zero => simp
  | succ n ih =>
    have h2 := cum_succ y (a + n) (by omega) (by omega)
    have := dim_bd y (a + n)
    have e : a + ((n + 1 : Nat) : Int) = a + n + 1 := by omega
    rw [e]; have := ih (by omega); omega
theorem cum_bd (y m : Int) (h0 : 1 ≤ m) (h1 : m ≤ 13) : 0 ≤ cum y m ∧ cum y m ≤ 366 := by
  have a := cum_mono y (a := 1) (b := m) (by omega) h0 h1
  have b := cum_mono y (a := m) (b := 13) h0 h1 (by omega)
  rw [cum_1] at a; rw [cum_13] at b
  have := lp_01 y
  omega
theorem num_bd {y m d : Int} (h : vld y m d = true) : -719162 ≤ num y m d ∧ num y m d < 2932897 := by
  obtain ⟨a, b, c, e, f, g⟩ := vld_iff.1 h
  have h1 := ahd_mono (a := 1) (b := y) a
  have h2 := ahd_mono (a := y + 1) (b := 10000) (by omega)
  rw [ahd_1] at h1; rw [ahd_10000, ahd_succ] at h2
  have h3 := cum_bd y m c (by omega)
  have h4 := cum_succ y m c e
  have h5 := cum_mono y (a := m + 1) (b := 13) (by omega) (by omega) (by omega)
  rw [cum_13] at h5
  unfold num; omega
/-- Two days with one number are one. -/
theorem num_inj {y m d y' m' d' : Int} (h : vld y m d = true) (h' : vld y' m' d' = true) (e : num y m d = num y' m' d') : y = y' ∧ m = m' ∧ d = d' := by
  obtain ⟨a, b, c, p, f, g⟩ := vld_iff.1 h
  obtain ⟨a', b', c', p', f', g'⟩ := vld_iff.1 h'
  unfold num at e
  have u := cum_succ y m c p
  have u' := cum_succ y' m' c' p'
  have v := cum_mono y (a := m + 1) (b := 13) (by omega) (by omega) (by omega)
  have v' := cum_mono y' (a := m' + 1) (b := 13) (by omega) (by omega) (by omega)
  rw [cum_13] at v v'
  have k := cum_bd y m c (by omega)
  have k' := cum_bd y' m' c' (by omega)
  have ey : y = y' := by
    rcases Int.lt_trichotomy y y' with hl | hl | hl
    · have := ahd_mono (a := y + 1) (b := y') (by omega)
      rw [ahd_succ] at this; omega
    · exact hl
    · have := ahd_mono (a := y' + 1) (b := y) (by omega)
      rw [ahd_succ] at this; omega
  subst ey
  have em : m = m' := by
    rcases Int.lt_trichotomy m m' with hl | hl | hl
    · have := cum_mono y (a := m + 1) (b := m') (by omega) (by omega) (by omega); omega
    · exact hl
    · have := cum_mono y (a := m' + 1) (b := m) (by omega) (by omega) (by omega); omega
  subst em
  exact ⟨rfl, rfl, by omega⟩
theorem w64 {x : Int} (h : -9223372036854775808 ≤ x ∧ x ≤ 9223372036854775807) : wrap64 x = x := by unfold wrap64; omega
theorem tm (y : Int) (n : Int) (h : 0 ≤ y) : Int.tmod y n = y % n := Int.tmod_eq_emod_of_nonneg h
theorem month_k {k : Nat} (hk : 1 ≤ k) {y : Int} (m : Int) (hy : 0 ≤ y) : date_month.f k y m = some (dim y m) := by
  obtain ⟨k, rfl⟩ : ∃ n, k = n + 1 := ⟨k - 1, by omega⟩
  unfold date_month.f dim lp
  simp only [date_month.j0, tm y _ hy]
  by_cases h4 : m = 4
  · subst h4; simp
  · by_cases h6 : m = 6
    · subst h6; simp
    · by_cases h9 : m = 9
      · subst h9; simp
      · by_cases h11 : m = 11
        · subst h11; simp
        · simp only [h4, h6, h9, h11, if_false, beq_iff_eq, or_self]
          by_cases h2 : m = 2
          · simp only [h2, if_true]
            by_cases a : y % 400 = 0
            · by_cases b : y % 4 = 0
              · by_cases c : y % 100 = 0 <;> simp [a, b, c]
              · omega
            · by_cases b : y % 4 = 0
              · by_cases c : y % 100 = 0 <;> simp [a, b, c]
              · simp [a, b]
          · simp [h2]
theorem there_k {k : Nat} (hk : 1 ≤ k) (y m d : Int) : date_there.f k y m d = some (vld y m d) := by
  unfold date_there.f vld
  by_cases h1 : y ≥ 1
  · rw [if_pos h1]
    by_cases h2 : y ≤ 9999
    · rw [if_pos h2]
      by_cases h3 : m ≥ 1
      · rw [if_pos h3]
        by_cases h4 : m ≤ 12
        · rw [if_pos h4]
          by_cases h5 : d ≥ 1
          · rw [if_pos h5, month_k hk m (by omega)]
            simp only [Option.bind_some]
            congr 1
            rw [decide_eq_decide]; omega
          · rw [if_neg h5]; congr 1; symm; rw [decide_eq_false_iff_not]; omega
        · rw [if_neg h4]; congr 1; symm; rw [decide_eq_false_iff_not]; omega
      · rw [if_neg h3]; congr 1; symm; rw [decide_eq_false_iff_not]; omega
    · rw [if_neg h2]; congr 1; symm; rw [decide_eq_false_iff_not]; omega
  · rw [if_neg h1]; congr 1; symm; rw [decide_eq_false_iff_not]; omega
theorem ahead_k {y : Int} (h : 1 ≤ y) (h' : y ≤ 10000) : date_ahead.f y = some (ahd y) := by
  unfold date_ahead.f ahd
  rw [w64 (x := y - 1) (by omega)]
  have e4 := Int.tdiv_eq_ediv_of_nonneg (a := y - 1) (b := 4) (by omega)
  have e100 := Int.tdiv_eq_ediv_of_nonneg (a := y - 1) (b := 100) (by omega)
  have e400 := Int.tdiv_eq_ediv_of_nonneg (a := y - 1) (b := 400) (by omega)
  rw [e4, e100, e400, w64 (x := 365 * (y - 1)) (by omega), w64 (x := (y - 1) / 4) (by omega), w64 (x := (y - 1) / 100) (by omega), w64 (x := (y - 1) / 400) (by omega), w64 (x := 365 * (y - 1) + (y - 1) / 4) (by omega), w64 (x := 365 * (y - 1) + (y - 1) / 4 - (y - 1) / 100) (by omega), w64 (by omega)]
theorem ahd_bd {y : Int} (h : 1 ≤ y) (h' : y ≤ 10000) : 0 ≤ ahd y ∧ ahd y ≤ 3652059 := by
  have a := ahd_mono h; have b := ahd_mono h'
  rw [ahd_1] at a; rw [ahd_10000] at b; exact ⟨a, b⟩
theorem days_l (y m : Int) (hy : 1 ≤ y) (hm : m ≤ 12) (t : Nat) : ∀ (k : Nat) (n j : Int), t + 1 < k → 1 ≤ j → m - j = t → -4000000 ≤ n → n ≤ 4000000 + 31 * j → date_Days.l0 k y m n j = some (n + (cum y m - cum y j) - 719162) := by
  induction t with
  | zero =>
    intro k n j hk hj e h0 h1
    obtain ⟨k, rfl⟩ : ∃ n, k = n + 1 := ⟨k - 1, by omega⟩
    obtain rfl : j = m := by omega
    simp only [date_Days.l0]
    rw [if_neg (by omega), w64 (by omega)]
    congr 1; omega
  | succ t ih =>
    intro k n j hk hj e h0 h1
    obtain ⟨k, rfl⟩ : ∃ n, k = n + 1 := ⟨k - 1, by omega⟩
    simp only [date_Days.l0]
    have hd := dim_bd y j
    rw [if_pos (by omega), month_k (by omega) j (by omega)]
    simp only [Option.bind_some]
    rw [w64 (x := n + dim y j) (by omega), w64 (x := j + 1) (by omega), ih k _ (j + 1) (by omega) (by omega) (by omega) (by omega) (by omega), cum_succ y j hj (by omega)]
    congr 1; omega
def days (y m d : Int) : Int := if vld y m d = true then num y m d else 0
theorem days_k {k : Nat} (hk : 14 ≤ k) (y m d : Int) : date_Days.f k y m d = some (days y m d) := by
  unfold date_Days.f days
  rw [there_k (by omega)]
  simp only [Option.bind_some]
  by_cases h : vld y m d = true
  · rw [if_pos h, if_pos h]
    obtain ⟨a, b, c, e, f, g⟩ := vld_iff.1 h
    have hd := dim_bd y m
    have ha := ahd_bd a (by omega)
    rw [ahead_k a (by omega)]
    simp only [Option.bind_some]
    rw [w64 (x := ahd y + d) (by omega), w64 (by omega), days_l y m a e (m - 1).toNat k _ 1 (by omega) (by omega) (by omega) (by omega) (by omega), cum_1]
    unfold num; congr 1; omega
  · rw [if_neg h, if_neg h]
theorem civil_l1 (y : Int) (hy : 1 ≤ y) (hy' : y ≤ 9999) (n : Int) (t : Nat) : ∀ (k : Nat) (m : Int), t + 2 < k → 1 ≤ m → m + t = 12 → 0 ≤ n - cum y m → n < 365 + lp y →
    ∃ m' d, date_Civil.l1 k (n - cum y m) y m = some (y, m', d) ∧ vld y m' d = true ∧ ahd y + cum y m' + d - 1 = ahd y + n := by
  induction t with
  | zero =>
    intro k m hk h1 e h0 hn
    obtain ⟨k, rfl⟩ : ∃ n, k = n + 1 := ⟨k - 1, by omega⟩
    obtain rfl : m = 12 := by omega
    have c := cum_succ y 12 (by omega) (by omega)
    have c13 := cum_13 y
    have e13 : (12 : Int) + 1 = 13 := by omega
    rw [e13, c13] at c
    have cb := cum_bd y 12 (by omega) (by omega)
    have l01 := lp_01 y
    refine ⟨12, n - cum y 12 + 1, ?_, vld_iff.2 ⟨hy, hy', by omega, by omega, by omega, by omega⟩, by omega⟩
    simp only [date_Civil.l1]
    rw [month_k (by omega) 12 (by omega)]
    simp only [Option.bind_some]
    rw [if_neg (by omega), w64 (by omega)]
  | succ t ih =>
    intro k m hk h1 e h0 hn
    obtain ⟨k, rfl⟩ : ∃ n, k = n + 1 := ⟨k - 1, by omega⟩
    have c := cum_succ y m h1 (by omega)
    have cb := cum_bd y m (by omega) (by omega)
    have db := dim_bd y m
    have l01 := lp_01 y
    simp only [date_Civil.l1]
    rw [month_k (by omega) m (by omega)]
    simp only [Option.bind_some]
    by_cases hc : n - cum y m ≥ dim y m
    · rw [if_pos hc, w64 (x := m + 1) (by omega), w64 (by omega)]
      have e2 : n - cum y m - dim y m = n - cum y (m + 1) := by omega
      rw [e2]
      exact ih k (m + 1) (by omega) (by omega) (by omega) (by omega) hn
    · rw [if_neg hc]
      refine ⟨m, n - cum y m + 1, ?_, vld_iff.2 ⟨hy, hy', by omega, by omega, by omega, by omega⟩, by omega⟩
      rw [w64 (by omega)]
theorem civil_l0 (n : Int) (h0 : 0 ≤ n) (h1 : n < 3652059) (t : Nat) : ∀ (k : Nat) (lo hi : Int), t + 20 < k → 1 ≤ lo → lo < hi → hi ≤ 10000 → hi - lo ≤ 2 ^ t → ahd lo ≤ n → n < ahd hi →
    ∃ y m d, date_Civil.l0 k n lo hi = some (y, m, d) ∧ vld y m d = true ∧ ahd y + cum y m + d - 1 = n := by
  induction t with
  | zero =>
    intro k lo hi hk a b c e f g
    obtain ⟨k, rfl⟩ : ∃ n, k = n + 1 := ⟨k - 1, by omega⟩
    have hh : hi = lo + 1 := by simp at e; omega
    subst hh
    rw [ahd_succ] at g
    simp only [date_Civil.l0]
    have ab := ahd_bd a (by omega)
    rw [if_neg (by rw [w64 (by omega)]; omega), ahead_k a (by omega)]
    simp only [Option.bind_some]
    rw [w64 (by omega)]
    obtain ⟨m', d, h2, h3, h4⟩ := civil_l1 lo a (by omega) (n - ahd lo) 11 k 1 (by omega) (by omega) (by omega) (by rw [cum_1]; omega) (by omega)
    rw [cum_1] at h2
    have e2 : n - ahd lo - 0 = n - ahd lo := by omega
    rw [e2] at h2
    exact ⟨lo, m', d, h2, h3, by omega⟩
  | succ t ih =>
    intro k lo hi hk a b c e f g
    obtain ⟨k, rfl⟩ : ∃ n, k = n + 1 := ⟨k - 1, by omega⟩
    by_cases h2 : hi - lo > 1
    · simp only [date_Civil.l0]
      have ep : (2 : Int) ^ (t + 1) = 2 * 2 ^ t := by rw [Int.pow_succ]; omega
      have em := Int.tdiv_eq_ediv_of_nonneg (a := lo + hi) (b := 2) (by omega)
      rw [if_pos (by rw [w64 (by omega)]; omega), w64 (x := lo + hi) (by omega), em, w64 (x := (lo + hi) / 2) (by omega), ahead_k (by omega) (by omega)]
      simp only [Option.bind_some]
      by_cases h3 : ahd ((lo + hi) / 2) ≤ n
      · rw [if_pos h3]
        exact ih k _ hi (by omega) (by omega) (by omega) c (by omega) h3 g
      · rw [if_neg h3]
        exact ih k lo _ (by omega) a (by omega) (by omega) (by omega) f (by omega)
    · have hh : hi = lo + 1 := by omega
      subst hh
      rw [ahd_succ] at g
      simp only [date_Civil.l0]
      have ab := ahd_bd a (by omega)
      rw [if_neg (by rw [w64 (by omega)]; omega), ahead_k a (by omega)]
      simp only [Option.bind_some]
      rw [w64 (by omega)]
      obtain ⟨m', d, h2, h3, h4⟩ := civil_l1 lo a (by omega) (n - ahd lo) 11 k 1 (by omega) (by omega) (by omega) (by rw [cum_1]; omega) (by omega)
      rw [cum_1] at h2
      have e2 : n - ahd lo - 0 = n - ahd lo := by omega
      rw [e2] at h2
      exact ⟨lo, m', d, h2, h3, by omega⟩
/-- Civil: the day with that number, or nothing. -/
theorem civil_k {k : Nat} (hk : 40 ≤ k) (n : Int) (hw : -9223372036854775808 ≤ n ∧ n ≤ 9223372036854775807) :
    ((n < -719162 ∨ 2932897 ≤ n) ∧ date_Civil.f k n = some (0, 0, 0)) ∨ (-719162 ≤ n ∧ n < 2932897 ∧ ∃ y m d, date_Civil.f k n = some (y, m, d) ∧ vld y m d = true ∧ num y m d = n) := by
  obtain ⟨k, rfl⟩ : ∃ n, k = n + 1 := ⟨k - 1, by omega⟩
  unfold date_Civil.f
  by_cases h1 : n < -719162
  · left
    rw [if_pos h1]
    exact ⟨.inl h1, rfl⟩
  · rw [if_neg h1, ahead_k (by omega) (by omega), ahd_10000]
    simp only [Option.bind_some]
    rw [w64 (by omega)]
    by_cases h2 : n ≥ 3652059 - 719162
    · left
      refine ⟨.inr (by omega), ?_⟩
      rw [decide_eq_true h2]; rfl
    · right
      refine ⟨by omega, by omega, ?_⟩
      rw [decide_eq_false h2]
      simp only [date_Civil.j0, Bool.false_eq_true, if_false]
      rw [w64 (by omega)]
      obtain ⟨y, m, d, h3, h4, h5⟩ := civil_l0 (n + 719162) (by omega) (by omega) 14 k 1 10000 (by omega) (by omega) (by omega) (by omega) (by decide) (by rw [ahd_1]; omega) (by rw [ahd_10000]; omega)
      exact ⟨y, m, d, h3, h4, by unfold num; omega⟩
theorem alive_60 : haversacklaw09_alive.f 60 = some true := by decide +kernel
theorem alive_k {k : Nat} (hk : 60 ≤ k) : haversacklaw09_alive.f k = some true := at_rounds haversacklaw09_alive.mono hk alive_60
end Go.Proofs.YtooknjpdflokkaaDoor.Pure
