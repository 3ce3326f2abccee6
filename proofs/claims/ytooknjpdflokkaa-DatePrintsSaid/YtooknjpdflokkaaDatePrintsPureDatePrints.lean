/- YtooknjpdflokkaaPureDatePrints, as far as DatePrints needs it (prune.py). -/
import Derived.Test.YtooknjpdflokkaaDatePrintsStmtDatePrints
import Derived.Test.YtooknjpdflokkaaDatePrintsPPx8
import Derived.Test.YtooknjpdflokkaaDatePrintsMyDateP
namespace Go.Proofs.Ytooknjpdflokkaa.Pure
open Go.RowKit Go.Proofs.Ytooknjpdflokkaa.PP Go.Proofs.Ytooknjpdflokkaa.My Go.Proofs.YtooknjpdflokkaaW.PrintWords Go.Proofs.YtooknjpdflokkaaW.PrintLast
set_option linter.unusedVariables false
set_option linter.unusedSimpArgs false
theorem readM_ok (M : List UInt8 → Option D7) (l : List UInt8) : (∃ y m d h mi s z, readM M l = some (y, m, d, h, mi, s, z, 0) ∧ M l = some (y, m, d, h, mi, s, z) ∧ rgt y m d h mi s z = true) ∨ (readM M l = some (0, 0, 0, 0, 0, 0, 0, 11) ∧ ∀ y m d h mi s z, M l = some (y, m, d, h, mi, s, z) → rgt y m d h mi s z = false) := by
  unfold readM
  cases hm : M l with
  | none => exact .inr ⟨rfl, fun _ _ _ _ _ _ _ h => by cases h⟩
  | some v =>
    obtain ⟨y, m, d, h, mi, s, z⟩ := v
    simp only [right_k (k := 1) (by omega), Option.map_some]
    cases hr : rgt y m d h mi s z with
    | true => rw [if_pos rfl]; exact .inl ⟨y, m, d, h, mi, s, z, rfl, rfl, hr⟩
    | false =>
      rw [if_neg (by decide)]
      refine .inr ⟨rfl, fun y' m' d' h' mi' s' z' e => ?_⟩
      simp only [Option.some.injEq, Prod.mk.injEq] at e
      obtain ⟨rfl, rfl, rfl, rfl, rfl, rfl, rfl⟩ := e
      exact hr
/-- A text is a right date's, or it is none's: what both readings are. -/
theorem both {k : Nat} (hk : 200 ≤ k) (l : List UInt8) (hl : l.length ≤ 2000) : ∃ y m d h mi s z e, date_Internal.f k ⟨l.toArray⟩ = some (y, m, d, h, mi, s, z, e) ∧ haversackref09_Internal.f k ⟨l.toArray⟩ = some (y, m, d, h, mi, s, z, e) := by
  have hread : date_read.f ⟨l.toArray⟩ 28 = readM internalL l := by
    unfold date_read.f
    rw [ba_size, if_pos (by omega), if_pos rfl]
  by_cases hp : ∃ y m d h mi s z, rgt y m d h mi s z = true ∧ prn y m d h mi s z = l
  · obtain ⟨y, m, d, h, mi, s, z, hr, rfl⟩ := hp
    refine ⟨y, m, d, h, mi, s, z, 0, ?_, rint_val hk hr⟩
    unfold date_Internal.f
    rw [hread]
    rcases readM_ok internalL (prn y m d h mi s z) with ⟨y', m', d', h', mi', s', z', e1, e2, _⟩ | ⟨_, e2⟩
    · rw [internal_prn hr] at e2
      simp only [Option.some.injEq, Prod.mk.injEq] at e2
      obtain ⟨rfl, rfl, rfl, rfl, rfl, rfl, rfl⟩ := e2
      rw [e1]
      simp only [Option.bind_some, if_true]
      rw [print_k (by omega)]
      simp only [Option.bind_some]
      unfold prB
      rw [if_pos hr, if_pos rfl]
    · have := e2 _ _ _ _ _ _ _ (internal_prn hr)
      rw [hr] at this; cases this
  · refine ⟨0, 0, 0, 0, 0, 0, 0, 11, ?_, ?_⟩
    · unfold date_Internal.f
      rw [hread]
      rcases readM_ok internalL l with ⟨y', m', d', h', mi', s', z', e1, e2, hr⟩ | ⟨e1, _⟩
      · rw [e1]
        simp only [Option.bind_some, if_true]
        rw [print_k (by omega)]
        simp only [Option.bind_some]
        unfold prB
        rw [if_pos hr, ba_toList, ba_toList, if_neg (fun e => hp ⟨_, _, _, _, _, _, _, hr, e⟩)]
      · rw [e1]; rfl
    · by_cases h26 : l.length = 26
      · obtain ⟨y, m, d, h, mi, s, z, e⟩ := rint_tot hk l h26
        rw [e, if_neg]
        intro e
        unfold prB at e
        by_cases hr : rgt y m d h mi s z = true
        · rw [if_pos hr, ba_toList] at e
          exact hp ⟨_, _, _, _, _, _, _, hr, e⟩
        · rw [if_neg hr] at e
          have : (⟨#[]⟩ : ByteArray).toList = [] := ba_toList []
          rw [this] at e
          rw [← e] at h26
          cases h26
      · unfold haversackref09_Internal.f
        rw [ba_size, if_neg (by omega)]
theorem prints_k (a0 a1 a2 a3 a4 a5 a6 : Int) (a : ByteArray) : ∃ k, haversacklaw09_DatePrints.f k a0 a1 a2 a3 a4 a5 a6 a = some true := by
  refine ⟨11000, ?_⟩
  obtain ⟨⟨l⟩⟩ := a
  have hs : ByteArray.size ⟨⟨l⟩⟩ = l.length := rfl
  unfold haversacklaw09_DatePrints.f
  rw [hs]
  by_cases h : (l.length : Int) > 2000
  · rw [if_pos h, alive_k (by omega)]; rfl
  · rw [if_neg h]
    obtain ⟨y, m, d, hh, mi, s, z, e, e1, e2⟩ := both (k := 11000) (by omega) l (by omega)
    have e1' : date_Internal.f 11000 ⟨⟨l⟩⟩ = some (y, m, d, hh, mi, s, z, e) := e1
    have e2' : haversackref09_Internal.f 11000 ⟨⟨l⟩⟩ = some (y, m, d, hh, mi, s, z, e) := e2
    rw [e1', e2', print_k (by omega), rprint_k (by omega)]
    simp only [Option.bind_some, if_true, beq_self_eq_true, Bool.and_self, haversacklaw09_no.f]
    rw [alive_k (by omega)]
    rfl
theorem DatePrints : haversacklaw09_DatePrints.Pure2 := fun x a _ _ => prints_k x.f0 x.f1 x.f2 x.f3 x.f4 x.f5 x.f6 a
end Go.Proofs.Ytooknjpdflokkaa.Pure
