/-
  Seconds of a date, and the date of a second.
-/
import Derived.Test.YtooknjpdflokkaaPPx6
import Derived.Test.YtooknjpdflokkaaPPx12
import Derived.Test.YtooknjpdflokkaaPPx16
import Derived.Test.YtooknjpdflokkaaPPx16
import Derived.Test.YtooknjpdflokkaaMyDateB
namespace Go.Proofs.Ytooknjpdflokkaa.Pure
open Go.RowKit Go.Proofs.Ytooknjpdflokkaa.PP Go.Proofs.YtooknjpdflokkaaW.PrintWords Go.Proofs.YtooknjpdflokkaaW.PrintLast
set_option linter.unusedVariables false
def unx (y m d h mi s z : Int) : Int := if rgt y m d h mi s z = true then num y m d * 86400 + h * 3600 + mi * 60 + s - z * 60 else 0
theorem rgt_vld {y m d h mi s z : Int} (hr : rgt y m d h mi s z = true) : vld y m d = true ∧ clk h mi s z = true := by
  unfold rgt at hr; simpa using hr
theorem unix_k {k : Nat} (hk : 14 ≤ k) (y m d h mi s z : Int) : date_Unix.f k y m d h mi s z = some (unx y m d h mi s z) := by
  unfold date_Unix.f unx
  rw [right_k (by omega)]
  simp only [Option.bind_some]
  by_cases hr : rgt y m d h mi s z = true
  · rw [if_pos hr, if_pos hr, days_k hk]
    simp only [Option.bind_some]
    obtain ⟨hv, hc⟩ := rgt_vld hr
    have hb := num_bd hv
    have hc := clk_iff.1 hc
    have hd : days y m d = num y m d := by unfold days; rw [if_pos hv]
    rw [hd, w64 (x := num y m d * 86400) (by omega), w64 (x := h * 3600) (by omega), w64 (x := num y m d * 86400 + h * 3600) (by omega), w64 (x := mi * 60) (by omega), w64 (x := num y m d * 86400 + h * 3600 + mi * 60) (by omega), w64 (x := num y m d * 86400 + h * 3600 + mi * 60 + s) (by omega), w64 (x := z * 60) (by omega), w64 (by omega)]
  · rw [if_neg hr, if_neg hr]
theorem runix_k {k : Nat} (hk : 14 ≤ k) (y m d h mi s z : Int) : haversackref09_Unix.f k y m d h mi s z = some (unx y m d h mi s z) := by
  unfold haversackref09_Unix.f unx
  rw [rright_k]
  simp only [Option.bind_some]
  by_cases hr : rgt y m d h mi s z = true
  · rw [if_pos hr, if_pos hr, rdays_k hk]
    simp only [Option.bind_some]
    obtain ⟨hv, hc⟩ := rgt_vld hr
    have hb := num_bd hv
    have hc := clk_iff.1 hc
    have hd : days y m d = num y m d := by unfold days; rw [if_pos hv]
    rw [hd, w64 (x := 86400 * num y m d) (by omega), w64 (x := 3600 * h) (by omega), w64 (x := 86400 * num y m d + 3600 * h) (by omega), w64 (x := 60 * mi) (by omega), w64 (x := 86400 * num y m d + 3600 * h + 60 * mi) (by omega), w64 (x := 86400 * num y m d + 3600 * h + 60 * mi + s) (by omega), w64 (x := 60 * z) (by omega), w64 (by omega)]
    congr 1; omega
  · rw [if_neg hr, if_neg hr]
/-- The day with a number, the program's way and the document's. -/
theorem civil_both {k : Nat} (hk : 10100 ≤ k) (n : Int) (hw : -9223372036854775808 ≤ n ∧ n ≤ 9223372036854775807) : ∃ c, date_Civil.f k n = some c ∧ haversackref09_Civil.f k n = some c ∧ ((n < -719162 ∨ 2932897 ≤ n) → c = (0, 0, 0)) := by
  rcases civil_k (k := k) (by omega) n hw with ⟨hr, hc⟩ | ⟨hr, hr', y, m, d, hc, hv, hn⟩
  · rcases rcivil_k hk n hw with ⟨hq, hd⟩ | ⟨hq, hq', y', m', d', hd, hv', hn'⟩
    · exact ⟨_, hc, hd, fun _ => rfl⟩
    · omega
  · rcases rcivil_k hk n hw with ⟨hq, hd⟩ | ⟨hq, hq', y', m', d', hd, hv', hn'⟩
    · omega
    · obtain ⟨rfl, rfl, rfl⟩ := num_inj hv hv' (hn.trans hn'.symm)
      exact ⟨_, hc, hd, fun h => by omega⟩
theorem tmod2 (x : Int) : Int.tmod (x.tmod 86400 + 86400) 86400 = x % 86400 := by
  rcases tdm x with ⟨h, _, e⟩ | ⟨h, _, e⟩
  · rw [Int.tmod_eq_emod_of_nonneg (by omega)]; omega
  · have := Int.emod_nonneg x (b := 86400) (by decide)
    rw [Int.tmod_eq_emod_of_nonneg (by omega)]; omega
theorem texact (x : Int) : (x - x % 86400).tdiv 86400 = x / 86400 := by
  have e : x - x % 86400 = 86400 * (x / 86400) := by omega
  rw [e, Int.mul_tdiv_cancel_left _ (by decide)]
theorem at_both {k : Nat} (hk : 10102 ≤ k) (u z : Int) (hu : -9223372036854775808 ≤ u ∧ u ≤ 9223372036854775807) (hz : -9223372036854775808 ≤ z ∧ z ≤ 9223372036854775807) :
    ∃ c, date_At.f k u z = some c ∧ haversackref09_At.f k u z = some c := by
  obtain ⟨k, rfl⟩ : ∃ m, k = m + 1 := ⟨k - 1, by omega⟩
  unfold date_At.f haversackref09_At.f
  simp only [rin, Option.bind_some]
  by_cases h1 : -1439 ≤ z ∧ z ≤ 1439
  · rw [decide_eq_true h1, if_pos rfl]
    by_cases h2 : -1000000000000 ≤ u ∧ u ≤ 1000000000000
    · have hb : atB u z = true := by unfold atB; rw [decide_eq_true_iff]; omega
      rw [decide_eq_true h2, hb, if_pos rfl]
      simp only [haversackref09_At.j0, Bool.not_true, Bool.false_eq_true, if_false]
      have e1 : u + z * 60 = u + 60 * z := by omega
      have hm := Int.emod_nonneg (u + 60 * z) (b := 86400) (by decide)
      have hm2 := Int.emod_lt_of_pos (u + 60 * z) (b := 86400) (by decide)
      have ht : -86400 ≤ (u + 60 * z).tmod 86400 ∧ (u + 60 * z).tmod 86400 ≤ 86400 := by rcases tdm (u + 60 * z) with ⟨h, _, e⟩ | ⟨h, _, e⟩ <;> omega
      rw [e1, w64 (x := 60 * z) (by omega), w64 (x := u + 60 * z) (by omega), w64 (x := (u + 60 * z).tmod 86400 + 86400) (by omega), tmod2, w64 (x := u + 60 * z - (u + 60 * z) % 86400) (by omega), texact, w64 (x := (u + 60 * z) / 86400) (by omega)]
      obtain ⟨c0, hc, hc', _⟩ := civil_both (k := k) (by omega) ((u + 60 * z) / 86400) (by omega)
      have hc2 := at_rounds (fun n => date_Civil.mono ((u + 60 * z) / 86400) n) (Nat.le_succ k) hc
      rw [hc2, hc']
      simp only [Option.map_some, Option.bind_some]
      have es : ∀ s : Int, 0 ≤ s → s < 86400 → wrap64 (s.tdiv 3600) = s / 3600 ∧ (wrap64 (s.tdiv 60)).tmod 60 = s / 60 % 60 ∧ s.tmod 60 = s % 60 := by
        intro s a b
        rw [Int.tdiv_eq_ediv_of_nonneg a, Int.tdiv_eq_ediv_of_nonneg a, Int.tmod_eq_emod_of_nonneg a, w64 (by omega), w64 (by omega), Int.tmod_eq_emod_of_nonneg (by omega)]
        exact ⟨rfl, rfl, rfl⟩
      obtain ⟨a1, a2, a3⟩ := es _ hm hm2
      rw [a1, a2, a3]
      by_cases hy : c0.1 = 0
      · rw [if_pos hy, if_pos hy]; exact ⟨_, rfl, rfl⟩
      · rw [if_neg hy, if_neg hy]; exact ⟨_, rfl, rfl⟩
    · rw [decide_eq_false h2]
      refine ⟨(0, 0, 0, 0, 0, 0, 0), ?_, rfl⟩
      by_cases hb : atB u z = true
      · rw [if_pos hb]
        unfold atB at hb
        rw [decide_eq_true_iff] at hb
        obtain ⟨c0, hc, _, h0⟩ := civil_both (k := k + 1) (by omega) ((u + z * 60) / 86400) (by omega)
        rw [hc, h0 (by omega)]; rfl
      · rw [if_neg hb]
  · have hb : ¬ atB u z = true := by unfold atB; rw [decide_eq_true_iff]; omega
    rw [decide_eq_false h1, if_neg hb]
    exact ⟨_, rfl, rfl⟩
end Go.Proofs.Ytooknjpdflokkaa.Pure
