/-
  NamesParts.
-/
import Derived.Test.YtnkibbfpmhgeaaaDoorPPx26
import Derived.Test.YtnkibbfpmhgeaaaDoorMyNamesP
namespace Go.Proofs.YtnkibbfpmhgeaaaDoor.Pure
open Go.RowKit Go.Proofs.YtnkibbfpmhgeaaaDoor.PP Go.Proofs.YtnkibbfpmhgeaaaDoor.My Go.Proofs.YtnkibbfpmhgeaaaDoorW.PrintWords Go.Proofs.YtnkibbfpmhgeaaaDoorW.PrintLast
set_option linter.unusedVariables false
set_option linter.unusedSimpArgs false
theorem under_self (a : List UInt8) : isUnder a a = false := by
  unfold isUnder
  rw [← Bool.not_eq_true, List.isPrefixOf_iff_prefix]
  intro h
  have := h.length_le
  simp at this
  omega
theorem joinTwo (a b : List UInt8) : joinL [a, b] = a ++ 47 :: b := by rw [joinL_cons _ _ (by simp), joinL_one]
set_option maxHeartbeats 1000000 in
theorem parts_law (a b : List UInt8) (ha : a.length ≤ 600) (hb : b.length ≤ 600) : Ev (fun k => haversacklaw07_NamesParts.j0 k (B a) (B b) false) true := by
  have hpa := partsA_len a []
  have hpb := partsA_len b []
  have hul := ups_len a [] []
  have two : names_Join.f [B a, B b] = some (B (a ++ 47 :: b)) := by
    have := names_join_f [a, b] (by rw [joinTwo]; simp; omega) (by simp)
    rw [joinTwo] at this
    exact this
  have hund : ∀ x, x ∈ ups [] a → isUnder a x = true := by
    intro x hx
    obtain ⟨t, ht⟩ := ups_under a [] x hx
    rw [List.nil_append] at ht
    rw [ht]; exact under_app x t
  have l0 : ∀ d i : Nat, i + d = (ups [] a).length → Ev (fun k => haversacklaw07_NamesParts.l0 k (B a) (B b) ((ups [] a).map B) ((ups [] a).length : Int) (i : Int)) true := by
    intro d
    induction d with
    | zero =>
      intro i hi
      apply Ev.go
      · intro k; rw [haversacklaw07_NamesParts.l0, if_neg (by omega), two, Option.bind_some, under_f _ _ (by omega), Option.bind_some, if_pos (under_app a b), under_f _ _ (by omega), Option.bind_some, under_self, if_neg (by decide)]
      · exact Ev.bd alive_ev (Ev.ret _)
    | succ d ih =>
      intro i hi
      have hil : i < (ups [] a).length := by omega
      have hrd : rdOf ByteArray.empty ((ups [] a).map B) (i : Int) = B (ups [] a)[i] := by rw [rd_at _ _ _ (by simpa using hil)]; simp
      have hlen : (ups [] a)[i].length ≤ 1000000 := by
        obtain ⟨t, ht⟩ := ups_under a [] _ (List.getElem_mem hil)
        have := congrArg List.length ht
        simp at this; omega
      refine Ev.go (fun k => ?_) (ih (i + 1) (by omega))
      rw [haversacklaw07_NamesParts.l0, if_pos (by omega), if_pos (by omega), List.length_map, if_pos (by omega), hrd, under_f _ _ (by omega), Option.bind_some, if_pos (hund _ (List.getElem_mem hil)), show wrap64 ((i : Int) + 1) = ((i + 1 : Nat) : Int) by rw [w64 (by omega)]; omega]
  have j1 : Ev (fun k => haversacklaw07_NamesParts.j1 k (B a) (B b) false) true := by
    apply Ev.go
    · intro k; rw [haversacklaw07_NamesParts.j1, if_neg (by decide)]
    · refine Ev.bd (names_up_f a (by omega)) ?_
      simp only [List.length_map]
      exact l0 (ups [] a).length 0 (by omega)
  apply Ev.go
  · intro k
    rw [haversacklaw07_NamesParts.j0, if_neg (by decide), names_parts_f a (by omega), Option.bind_some, names_parts_f b (by omega), Option.bind_some, names_join_f _ (by rw [join_parts]; simp; omega) (by omega), Option.bind_some, join_parts, List.nil_append, if_pos rfl, two, Option.bind_some, names_parts_f _ (by simp; omega), Option.bind_some, Option.bind_some, List.length_nil, List.length_map, if_pos (by omega), Option.bind_some, List.nil_append, List.length_map, List.length_map, if_pos (by omega), ← List.map_append, ← partsA_app]
  · refine Ev.bd (same_f _ (by have := partsA_len (a ++ 47 :: b) []; simp at this ⊢; omega)) ?_
    simp only [if_true]
    refine Ev.bd (names_up_f a (by omega)) ?_
    have e : (((ups [] a).map B).length : Int) = wrap64 (((partsA [] a).length : Int) - 1) := by
      rw [List.length_map, w64 (by omega)]; omega
    simp only [e, bne_self_eq_false]
    exact j1
theorem NamesParts : haversacklaw07_NamesParts.Pure := by
  intro a0 a1 _ _
  rw [ba_list a0, ba_list a1]
  generalize a0.data.toList = a
  generalize a1.data.toList = b
  have hal : Ev (fun k => haversacklaw07_NamesParts.j0 k (B a) (B b) true) true := by
    apply Ev.go
    · intro k; rw [haversacklaw07_NamesParts.j0, if_pos rfl]
    · exact Ev.bd alive_ev (Ev.ret _)
  have hev : Ev (fun k => haversacklaw07_NamesParts.f k (B a) (B b)) true := by
    unfold haversacklaw07_NamesParts.f
    simp only [ba_size]
    by_cases c0 : (a.length : Int) > 600
    · simp only [if_pos c0]; exact hal
    · simp only [if_neg c0]
      by_cases c1 : (b.length : Int) > 600
      · simp only [decide_eq_true c1]; exact hal
      · simp only [decide_eq_false c1]
        exact parts_law a b (by omega) (by omega)
  obtain ⟨K, hK⟩ := hev
  exact ⟨K, hK K (Nat.le_refl _)⟩
end Go.Proofs.YtnkibbfpmhgeaaaDoor.Pure
