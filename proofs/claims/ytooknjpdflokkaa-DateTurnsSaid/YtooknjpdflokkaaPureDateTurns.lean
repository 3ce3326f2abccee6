/-
  DateTurns.
-/
import Derived.Test.YtooknjpdflokkaaPPx16
import Derived.Test.YtooknjpdflokkaaMyDateB
namespace Go.Proofs.Ytooknjpdflokkaa.Pure
open Go.RowKit Go.Proofs.Ytooknjpdflokkaa.PP Go.Proofs.YtooknjpdflokkaaW.PrintWords Go.Proofs.YtooknjpdflokkaaW.PrintLast
set_option linter.unusedVariables false
theorem turns_j1 {k : Nat} (hk : 100 ≤ k) (n : Int) (hw : -9223372036854775808 ≤ n ∧ n ≤ 9223372036854775807) : haversacklaw09_DateTurns.j1 k n = some true := by
  obtain ⟨k, rfl⟩ : ∃ m, k = m + 1 := ⟨k - 1, by omega⟩
  simp only [haversacklaw09_DateTurns.j1]
  rcases civil_k (k := k) (by omega) n hw with ⟨hr, hc⟩ | ⟨hr, hr', y, m, d, hc, hv, hn⟩
  · rw [hc]
    simp only [Option.bind_some, if_true]
    rw [if_pos (by decide +kernel), alive_k (by omega)]; rfl
  · rw [hc]
    simp only [Option.bind_some]
    have hy := (vld_iff.1 hv).1
    rw [if_neg (by omega), days_k (by omega), right_k (by omega)]
    simp only [Option.bind_some]
    have e1 : days y m d = n := by unfold days; rw [if_pos hv]; exact hn
    have e2 : rgt y m d 0 0 0 0 = true := by unfold rgt; rw [hv]; rfl
    rw [if_pos e1, if_pos e2, alive_k (by omega)]; rfl
theorem DateTurns : haversacklaw09_DateTurns.Pure := by
  intro a0 a1 a2 a3 h0 h1 h2 h3
  refine ⟨200, ?_⟩
  unfold haversacklaw09_DateTurns.f
  have er : ∀ y m d, rgt y m d 0 0 0 0 = vld y m d := fun y m d => by unfold rgt; rw [show clk 0 0 0 0 = true from rfl, Bool.and_true]
  rw [days_k (by omega), right_k (by omega), er]
  simp only [Option.bind_some]
  by_cases hv : vld a0 a1 a2 = true
  · have hd : days a0 a1 a2 = num a0 a1 a2 := by unfold days; rw [if_pos hv]
    have nb := num_bd hv
    rw [if_pos hv, hd]
    rcases civil_k (k := 200) (by omega) (num a0 a1 a2) (by omega) with ⟨hr, hc⟩ | ⟨hr, hr', y, m, d, hc, hv', hn⟩
    · omega
    · obtain ⟨rfl, rfl, rfl⟩ := num_inj hv' hv hn
      have hb := vld_iff.1 hv
      have hdm := dim_bd y m
      rw [hc]
      simp only [Option.bind_some, if_true, bne_self_eq_false]
      simp only [haversacklaw09_DateTurns.j0, Bool.false_eq_true, if_false]
      rw [w64 (x := d + 1) (by omega), right_k (by omega), er]
      simp only [Option.bind_some]
      by_cases hv2 : vld y m (d + 1) = true
      · rw [if_pos hv2, days_k (by omega)]
        simp only [Option.bind_some]
        have e1 : days y m (d + 1) = wrap64 (num y m d + 1) := by unfold days; rw [if_pos hv2, num_next, w64 (by omega)]
        rw [if_pos e1]
        exact turns_j1 (by omega) a3 (bd64 h3)
      · rw [if_neg hv2]
        exact turns_j1 (by omega) a3 (bd64 h3)
  · have hd : days a0 a1 a2 = 0 := by unfold days; rw [if_neg hv]
    rw [if_neg hv, hd, if_pos rfl]
    exact turns_j1 (by omega) a3 (bd64 h3)
end Go.Proofs.Ytooknjpdflokkaa.Pure
