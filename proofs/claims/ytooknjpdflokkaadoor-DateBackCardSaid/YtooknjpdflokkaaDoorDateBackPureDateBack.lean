/- YtooknjpdflokkaaDoorPureDateBack, as far as DateBack needs it (prune.py). -/
import Derived.Test.YtooknjpdflokkaaDoorDateBackStmtDateBack
import Derived.Test.YtooknjpdflokkaaDoorDateBackMyBack
namespace Go.Proofs.YtooknjpdflokkaaDoor.Pure
open Go.RowKit Go.Proofs.YtooknjpdflokkaaDoor.PP Go.Proofs.YtooknjpdflokkaaDoor.My Go.Proofs.YtooknjpdflokkaaDoorW.PrintWords Go.Proofs.YtooknjpdflokkaaDoorW.PrintLast
set_option linter.unusedVariables false
set_option linter.unusedSimpArgs false
theorem bk_readM (M : List UInt8 → Option D7) (l : List UInt8) : (∃ y m d h mi s z, readM M l = some (y, m, d, h, mi, s, z, 0) ∧ M l = some (y, m, d, h, mi, s, z) ∧ rgt y m d h mi s z = true) ∨ (readM M l = some (0, 0, 0, 0, 0, 0, 0, 11) ∧ ∀ y m d h mi s z, M l = some (y, m, d, h, mi, s, z) → rgt y m d h mi s z = false) := by
  unfold readM
  cases hm : M l with
  | none => exact .inr ⟨rfl, fun _ _ _ _ _ _ _ h => by cases h⟩
  | some v =>
    obtain ⟨y, m, d, h, mi, s, z⟩ := v
    simp only [right_k (k := 1) (by omega), Option.map_some]
    cases hr : rgt y m d h mi s z with
    | true => rw [if_pos rfl]; exact .inl ⟨y, m, d, h, mi, s, z, rfl, rfl, hr⟩
    | false =>
      rw [if_neg (by decide)]
      refine .inr ⟨rfl, fun y' m' d' h' mi' s' z' e => ?_⟩
      simp only [Option.some.injEq, Prod.mk.injEq] at e
      obtain ⟨rfl, rfl, rfl, rfl, rfl, rfl, rfl⟩ := e
      exact hr
theorem bk_read (l : List UInt8) (hl : l.length ≤ 2000) : date_read.f ⟨l.toArray⟩ 40 = readM internalL l := by
  unfold date_read.f
  rw [ba_size, if_pos (by omega), if_pos rfl]
/-- What is read of a text: its date, or none. -/
theorem int_any {k : Nat} (hk : 200 ≤ k) (l : List UInt8) (hl : l.length ≤ 2000) : ∃ y m d h mi s z e, date_Internal.f k ⟨l.toArray⟩ = some (y, m, d, h, mi, s, z, e) ∧ (e = 0 → (prB y m d h mi s z).toList = l) := by
  unfold date_Internal.f
  rw [bk_read l hl]
  rcases bk_readM internalL l with ⟨y', m', d', h', mi', s', z', e1, e2, hr⟩ | ⟨e1, _⟩
  · rw [e1]
    simp only [Option.bind_some, if_true]
    rw [print_k (by omega)]
    simp only [Option.bind_some, ba_toList]
    by_cases h : (prB y' m' d' h' mi' s' z').toList = l
    · rw [if_pos h]
      exact ⟨_, _, _, _, _, _, _, _, rfl, fun _ => h⟩
    · rw [if_neg h]
      exact ⟨_, _, _, _, _, _, _, _, rfl, fun e => by cases e⟩
  · rw [e1]
    exact ⟨_, _, _, _, _, _, _, _, rfl, fun e => by cases e⟩
theorem bk_len {y m d h mi s z : Int} (hr : rgt y m d h mi s z = true) : (prn y m d h mi s z).length = 26 := by
  obtain ⟨hy, hm, hd, hh, hmi, hs, hz⟩ := rgt_all hr
  obtain ⟨c1, c2, c3, e1, _, _⟩ := mon_cut hm.1 hm.2
  have := zon_len z
  unfold prn
  simp only [List.length_append, e1, this]
  split <;> rfl
/-- A right date's text is read as it was. -/
theorem int_prn {k : Nat} (hk : 200 ≤ k) {y m d h mi s z : Int} (hr : rgt y m d h mi s z = true) : date_Internal.f k ⟨(prn y m d h mi s z).toArray⟩ = some (y, m, d, h, mi, s, z, 0) := by
  have hl := bk_len hr
  unfold date_Internal.f
  rw [bk_read _ (by omega)]
  rcases bk_readM internalL (prn y m d h mi s z) with ⟨y', m', d', h', mi', s', z', e1, e2, _⟩ | ⟨_, e2⟩
  · rw [internal_prn hr] at e2
    simp only [Option.some.injEq, Prod.mk.injEq] at e2
    obtain ⟨rfl, rfl, rfl, rfl, rfl, rfl, rfl⟩ := e2
    rw [e1]
    simp only [Option.bind_some, if_true]
    rw [print_k (by omega)]
    simp only [Option.bind_some]
    unfold prB
    rw [if_pos hr, if_pos rfl]
  · have := e2 _ _ _ _ _ _ _ (internal_prn hr)
    rw [hr] at this; cases this
theorem mail_prn {y m d h mi s z : Int} (hr : rgt y m d h mi s z = true) : date_Mail.f ⟨(bln 0 (prn y m d h mi s z)).toArray⟩ = some (y, m, d, h, mi, s, z, 0) := by
  have hl := bk_len hr
  have hread : date_read.f ⟨(bln 0 (prn y m d h mi s z)).toArray⟩ 18 = readM mailL (bln 0 (prn y m d h mi s z)) := by
    unfold date_read.f
    rw [ba_size, bln_len, if_pos (by omega), if_neg (by decide), if_neg (by decide), if_pos rfl]
  unfold date_Mail.f
  rw [hread]
  rcases bk_readM mailL (bln 0 (prn y m d h mi s z)) with ⟨y', m', d', h', mi', s', z', e1, e2, _⟩ | ⟨_, e2⟩
  · rw [mail_bln hr] at e2
    simp only [Option.some.injEq, Prod.mk.injEq] at e2
    obtain ⟨rfl, rfl, rfl, rfl, rfl, rfl, rfl⟩ := e2
    rw [e1]; rfl
  · have := e2 _ _ _ _ _ _ _ (mail_bln hr)
    rw [hr] at this; cases this
theorem back_j {k : Nat} (hk : 300 ≤ k) (y m d h mi s z : Int) : haversacklaw09_DateBack.j0 k false y m d h mi s z = some true := by
  obtain ⟨k, rfl⟩ : ∃ n, k = n + 1 := ⟨k - 1, by omega⟩
  simp only [haversacklaw09_DateBack.j0, print_k (k := k) (by omega), right_k (k := k) (by omega), Option.bind_some, Bool.false_eq_true, if_false]
  by_cases hr : rgt y m d h mi s z = true
  · have hp : prB y m d h mi s z = ⟨(prn y m d h mi s z).toArray⟩ := by unfold prB; rw [if_pos hr]
    have hl := bk_len hr
    have hb : blnF ⟨(prn y m d h mi s z).toArray⟩ = some ⟨(bln 0 (prn y m d h mi s z)).toArray⟩ := by
      unfold blnF
      rw [ba_size, if_pos (by omega)]
    have w0 : wrap64 (0 + 0) = 0 := by decide +kernel
    rw [if_pos hr, hp, int_prn (by omega) hr]
    simp only [Option.bind_some, hb, mail_prn hr, haversacklaw09_no.f, w0, beq_self_eq_true, Bool.and_self, if_true, unix_k (k := k) (by omega), at_unix (k := k) (by omega) hr]
    rw [alive_k (by omega)]
    rfl
  · rw [if_neg hr]
    have hp : (prB y m d h mi s z).toList = [] := by unfold prB; rw [if_neg hr]; exact ba_toList []
    have hu : unx y m d h mi s z = 0 := by unfold unx; rw [if_neg hr]
    rw [if_pos hp, unix_k (by omega), hu]
    simp only [Option.bind_some, if_true]
    rw [alive_k (by omega)]
    rfl
theorem back_k (a0 a1 a2 a3 a4 a5 a6 : Int) (a : ByteArray) : ∃ k, haversacklaw09_DateBack.f k a0 a1 a2 a3 a4 a5 a6 a = some true := by
  refine ⟨400, ?_⟩
  obtain ⟨⟨l⟩⟩ := a
  have hs : ByteArray.size ⟨⟨l⟩⟩ = l.length := rfl
  unfold haversacklaw09_DateBack.f
  rw [hs]
  by_cases h : (l.length : Int) > 2000
  · rw [if_pos h, alive_k (by omega)]; rfl
  · rw [if_neg h]
    obtain ⟨y, m, d, hh, mi, s, z, e, e1, e2⟩ := int_any (k := 400) (by omega) l (by omega)
    have e1' : date_Internal.f 400 ⟨⟨l⟩⟩ = some (y, m, d, hh, mi, s, z, e) := e1
    rw [e1']
    simp only [Option.bind_some, haversacklaw09_no.f]
    by_cases he : e = 0
    · rw [if_pos he, print_k (by omega)]
      simp only [Option.bind_some]
      have hn : ((prB y m d hh mi s z).toList != ByteArray.toList ⟨⟨l⟩⟩) = false := by
        have : ByteArray.toList ⟨⟨l⟩⟩ = l := ba_toList l
        rw [this, e2 he]; exact bne_self_eq_false l
      rw [hn]
      exact back_j (by omega) _ _ _ _ _ _ _
    · rw [if_neg he]
      exact back_j (by omega) _ _ _ _ _ _ _
theorem DateBack : haversacklaw09_DateBack.Pure2 := fun x a _ _ => back_k x.f0 x.f1 x.f2 x.f3 x.f4 x.f5 x.f6 a
end Go.Proofs.YtooknjpdflokkaaDoor.Pure
