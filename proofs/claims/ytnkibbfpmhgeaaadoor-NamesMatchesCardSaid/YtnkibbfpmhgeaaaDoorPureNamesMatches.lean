/-
  NamesMatches.
-/
import Derived.Test.YtnkibbfpmhgeaaaDoorPPx10
import Derived.Test.YtnkibbfpmhgeaaaDoorMyNamesR
namespace Go.Proofs.YtnkibbfpmhgeaaaDoor.Pure
open Go.RowKit Go.Proofs.YtnkibbfpmhgeaaaDoor.PP Go.Proofs.YtnkibbfpmhgeaaaDoor.My Go.Proofs.YtnkibbfpmhgeaaaDoorW.PrintWords Go.Proofs.YtnkibbfpmhgeaaaDoorW.PrintLast
set_option linter.unusedVariables false
set_option linter.unusedSimpArgs false
theorem alive_ev : Ev haversacklaw07_alive.f true := ⟨60, fun k hk => alive_k hk⟩
theorem Ev.bd {α β : Type} {g : Nat → Option α} {f : Nat → α → Option β} {a : α} {r : β} (h : Ev g a) (k : Ev (fun n => f n a) r) : Ev (fun n => (g n).bind (f n)) r := by
  obtain ⟨K, hK⟩ := h
  obtain ⟨M, hM⟩ := k
  refine ⟨K + M, fun n hn => ?_⟩
  simp only [hK n (by omega), Option.bind_some]
  exact hM n (by omega)
theorem Ev.ret {α : Type} (r : α) : Ev (fun _ => some r) r := ⟨0, fun _ _ => rfl⟩
theorem NamesMatches : haversacklaw07_NamesMatches.Pure := by
  intro a0 a1 _ _
  rw [ba_list a0, ba_list a1]
  generalize a0.data.toList = p
  generalize a1.data.toList = n
  have hal : Ev (fun k => haversacklaw07_NamesMatches.j0 k ⟨p.toArray⟩ ⟨n.toArray⟩ true) true := by
    apply Ev.go
    · intro k; rw [haversacklaw07_NamesMatches.j0, if_pos rfl]
    · exact Ev.bd alive_ev (Ev.ret _)
  have hev : Ev (fun k => haversacklaw07_NamesMatches.f k ⟨p.toArray⟩ ⟨n.toArray⟩) true := by
    by_cases c0 : (p.length : Int) > 120
    · refine Ev.same (fun k => ?_) hal
      unfold haversacklaw07_NamesMatches.f
      rw [ba_size, if_pos c0]
    · by_cases c1 : (n.length : Int) > 120
      · refine Ev.same (fun k => ?_) hal
        unfold haversacklaw07_NamesMatches.f
        rw [ba_size, ba_size, if_neg c0, decide_eq_true c1]
      · have hj : Ev (fun k => haversacklaw07_NamesMatches.j0 k ⟨p.toArray⟩ ⟨n.toArray⟩ false) true := by
          apply Ev.go
          · intro k; rw [haversacklaw07_NamesMatches.j0, if_neg (by decide)]
          · refine Ev.bd (match_f p n (by omega) (by omega)) (Ev.bd (ref_match p n (by omega) (by omega)) ?_)
            simp only [beq_self_eq_true, if_true]
            exact Ev.bd alive_ev (Ev.ret _)
        refine Ev.same (fun k => ?_) hj
        unfold haversacklaw07_NamesMatches.f
        rw [ba_size, ba_size, if_neg c0, decide_eq_false c1]
  obtain ⟨K, hK⟩ := hev
  exact ⟨K, hK K (Nat.le_refl _)⟩
end Go.Proofs.YtnkibbfpmhgeaaaDoor.Pure
