/-
  NamesMoved.
-/
import Derived.Test.YtnkibbfpmhgeaaaDoorPPx8
import Derived.Test.YtnkibbfpmhgeaaaDoorMyNamesA
namespace Go.Proofs.YtnkibbfpmhgeaaaDoor.Pure
open Go.RowKit Go.Proofs.YtnkibbfpmhgeaaaDoor.PP Go.Proofs.YtnkibbfpmhgeaaaDoor.My Go.Proofs.YtnkibbfpmhgeaaaDoorW.PrintWords Go.Proofs.YtnkibbfpmhgeaaaDoorW.PrintLast
set_option linter.unusedVariables false
set_option linter.unusedSimpArgs false
theorem moved_law (l m t : List UInt8) (h1 : l.length ≤ 600) (h2 : m.length ≤ 600) (h3 : t.length ≤ 600) {k : Nat} (hk : 61 ≤ k) :
    haversacklaw07_NamesMoved.j0 k ⟨l.toArray⟩ ⟨m.toArray⟩ ⟨t.toArray⟩ false = some true := by
  obtain ⟨k, rfl⟩ : ∃ j, k = j + 1 := ⟨k - 1, by omega⟩
  rw [haversacklaw07_NamesMoved.j0]
  rw [if_neg (by decide), moved_f l m t (by omega) (by omega) (by omega), alive_k (by omega)]
  simp only [Option.bind_some, ba_toList]
  by_cases e : l = m
  · subst e
    have e1 : movedL l l t = (t, true) := if_pos rfl
    rw [e1, if_pos rfl, moved_f t t l (by omega) (by omega) (by omega)]
    have e2 : movedL t t l = (l, true) := if_pos rfl
    simp [e2, ba_toList]
  · by_cases u : isUnder l m = true
    · obtain ⟨s, rfl⟩ := under_le u
      have hlen : m.length + (s.length + 1) ≤ 600 := by simpa using h1
      have e1 : movedL (m ++ 47 :: s) m t = (t ++ 47 :: s, true) := by unfold movedL; rw [if_neg e, if_pos u]; simp
      have e3 : t ++ 47 :: s ≠ t := by intro h; have := congrArg List.length h; simp at this
      have e2 : movedL (t ++ 47 :: s) t m = (m ++ 47 :: s, true) := by unfold movedL; rw [if_neg e3, if_pos (under_app t s)]; simp
      rw [e1, if_pos rfl, moved_f _ t m (by simp; omega) (by omega) (by omega), under_f _ t (by omega), under_app]
      simp only [e2, Option.bind_some, ba_toList, if_true]
      rw [if_neg e3]
    · have e1 : movedL l m t = (l, false) := by unfold movedL; rw [if_neg e, if_neg u]
      rw [e1, under_f l m (by omega)]
      simp only [if_true, if_neg e, Option.bind_some, if_neg u]
      rfl
theorem NamesMoved : haversacklaw07_NamesMoved.Pure := by
  intro a0 a1 a2 h0 h1 h2
  refine ⟨61, ?_⟩
  rw [ba_list a0, ba_list a1, ba_list a2]
  generalize a0.data.toList = l
  generalize a1.data.toList = m
  generalize a2.data.toList = t
  have hal : haversacklaw07_NamesMoved.j0 61 ⟨l.toArray⟩ ⟨m.toArray⟩ ⟨t.toArray⟩ true = some true := by
    rw [haversacklaw07_NamesMoved.j0]
    rw [if_pos rfl, alive_k (by omega)]; rfl
  unfold haversacklaw07_NamesMoved.f
  simp only [ba_size]
  by_cases c0 : (l.length : Int) > 600
  · rw [if_pos c0]; exact hal
  · rw [if_neg c0]
    by_cases c1 : (m.length : Int) > 600
    · rw [if_pos c1]; exact hal
    · rw [if_neg c1]
      by_cases c2 : (t.length : Int) > 600
      · rw [decide_eq_true c2]; exact hal
      · rw [decide_eq_false c2]; exact moved_law l m t (by omega) (by omega) (by omega) (by omega)
end Go.Proofs.YtnkibbfpmhgeaaaDoor.Pure
