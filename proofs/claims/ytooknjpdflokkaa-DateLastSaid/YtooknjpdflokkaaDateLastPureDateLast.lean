/- YtooknjpdflokkaaPureDateLast, as far as DateLast needs it (prune.py). -/
import Derived.Test.YtooknjpdflokkaaDateLastStmtDateLast
import Derived.Test.YtooknjpdflokkaaDateLastMyDateC
namespace Go.Proofs.Ytooknjpdflokkaa.Pure
open Go.RowKit Go.Proofs.Ytooknjpdflokkaa.PP Go.Proofs.YtooknjpdflokkaaW.PrintWords Go.Proofs.YtooknjpdflokkaaW.PrintLast
set_option linter.unusedVariables false
def bR (x : S23) : Bool := rgt x.f0 x.f1 x.f2 x.f3 x.f4 x.f5 x.f6
def bU (x : S23) : Int := unx x.f0 x.f1 x.f2 x.f3 x.f4 x.f5 x.f6
theorem brk {k : Nat} (hk : 1 ≤ k) (x : S23) : date_Right.f k x.f0 x.f1 x.f2 x.f3 x.f4 x.f5 x.f6 = some (bR x) := right_k hk _ _ _ _ _ _ _
theorem bruk {k : Nat} (hk : 14 ≤ k) (x : S23) : date_Unix.f k x.f0 x.f1 x.f2 x.f3 x.f4 x.f5 x.f6 = some (bU x) := unix_k hk _ _ _ _ _ _ _
theorem rbrk (x : S23) : haversackref09_Right.f x.f0 x.f1 x.f2 x.f3 x.f4 x.f5 x.f6 = some (bR x) := rright_k _ _ _ _ _ _ _
theorem rbruk {k : Nat} (hk : 14 ≤ k) (x : S23) : haversackref09_Unix.f k x.f0 x.f1 x.f2 x.f3 x.f4 x.f5 x.f6 = some (bU x) := runix_k hk _ _ _ _ _ _ _
theorem last_both (xs : List S23) (hn : xs.length ≤ 200) : ∀ (t k : Nat) (i a : Int) (s : Bool) (b : S23), t + 20 ≤ k → 0 ≤ i → i + t = xs.length →
    ((s = false ∧ a = -1 ∧ b = z23) ∨ (s = true ∧ 0 ≤ a ∧ a < i ∧ rd_T23 xs a = b)) → (∀ j : Int, 0 ≤ j → j < i → bR (rd_T23 xs j) = true → s = true ∧ bU (rd_T23 xs j) ≤ bU b) →
    ∃ (b' : S23) (s' : Bool), date_Last.l0 k s xs xs.length i b.f0 b.f1 b.f2 b.f3 b.f4 b.f5 b.f6 = some (b'.f0, b'.f1, b'.f2, b'.f3, b'.f4, b'.f5, b'.f6, s') ∧
      haversackref09_Last.l0 k xs a i = some (b'.f0, b'.f1, b'.f2, b'.f3, b'.f4, b'.f5, b'.f6, s') ∧ (∀ j : Int, 0 ≤ j → j < xs.length → bR (rd_T23 xs j) = true → s' = true ∧ bU (rd_T23 xs j) ≤ bU b') := by
  intro t
  induction t with
  | zero =>
    intro k i a s b hk h0 hi inv all
    obtain ⟨k, rfl⟩ : ∃ m, k = m + 1 := ⟨k - 1, by omega⟩
    refine ⟨b, s, ?_, ?_, fun j h1 h2 => all j h1 (by omega)⟩
    · simp only [date_Last.l0]
      rw [if_neg (by omega)]
    · simp only [haversackref09_Last.l0]
      rw [if_neg (by omega)]
      rcases inv with ⟨rfl, rfl, rfl⟩ | ⟨rfl, h1, h2, rfl⟩
      · rw [if_pos (by omega)]; rfl
      · rw [if_neg (by omega), if_pos h1, if_pos (by omega)]
  | succ t ih =>
    intro k i a s b hk h0 hi inv all
    obtain ⟨k, rfl⟩ : ∃ m, k = m + 1 := ⟨k - 1, by omega⟩
    simp only [date_Last.l0, haversackref09_Last.l0]
    have hlt : i < (xs.length : Int) := by omega
    have hw : wrap64 (i + 1) = i + 1 := w64 (by omega)
    simp only [if_pos hlt, if_pos h0, brk (k := k) (by omega), rbrk, hw, Option.bind_some]
    have skip : (bR (rd_T23 xs i) = true → s = true ∧ bU (rd_T23 xs i) ≤ bU b) → ∃ (b' : S23) (s' : Bool), date_Last.l0 k s xs xs.length (i + 1) b.f0 b.f1 b.f2 b.f3 b.f4 b.f5 b.f6 = some (b'.f0, b'.f1, b'.f2, b'.f3, b'.f4, b'.f5, b'.f6, s') ∧
      haversackref09_Last.l0 k xs a (i + 1) = some (b'.f0, b'.f1, b'.f2, b'.f3, b'.f4, b'.f5, b'.f6, s') ∧ (∀ j : Int, 0 ≤ j → j < xs.length → bR (rd_T23 xs j) = true → s' = true ∧ bU (rd_T23 xs j) ≤ bU b') := fun hs =>
      ih k (i + 1) a s b (by omega) (by omega) (by omega) (by rcases inv with h | ⟨h1, h2, h3, h4⟩; exact .inl h; exact .inr ⟨h1, h2, by omega, h4⟩) (fun j h1 h2 h3 => by
        rcases Int.lt_or_eq_of_le (show j ≤ i by omega) with h | rfl
        · exact all j h1 h h3
        · exact hs h3)
    have take : (∀ j : Int, 0 ≤ j → j < i → bR (rd_T23 xs j) = true → bU (rd_T23 xs j) ≤ bU (rd_T23 xs i)) → ∃ (b' : S23) (s' : Bool), date_Last.l0 k true xs xs.length (i + 1) (rd_T23 xs i).f0 (rd_T23 xs i).f1 (rd_T23 xs i).f2 (rd_T23 xs i).f3 (rd_T23 xs i).f4 (rd_T23 xs i).f5 (rd_T23 xs i).f6 = some (b'.f0, b'.f1, b'.f2, b'.f3, b'.f4, b'.f5, b'.f6, s') ∧
      haversackref09_Last.l0 k xs i (i + 1) = some (b'.f0, b'.f1, b'.f2, b'.f3, b'.f4, b'.f5, b'.f6, s') ∧ (∀ j : Int, 0 ≤ j → j < xs.length → bR (rd_T23 xs j) = true → s' = true ∧ bU (rd_T23 xs j) ≤ bU b') := fun hs =>
      ih k (i + 1) i true (rd_T23 xs i) (by omega) (by omega) (by omega) (.inr ⟨rfl, h0, by omega, rfl⟩) (fun j h1 h2 h3 => by
        rcases Int.lt_or_eq_of_le (show j ≤ i by omega) with h | rfl
        · exact ⟨rfl, hs j h1 h h3⟩
        · exact ⟨rfl, Int.le_refl _⟩)
    cases hr : bR (rd_T23 xs i) with
    | false =>
      rw [if_neg (by decide), if_neg (by decide)]
      exact skip (fun h => by rw [hr] at h; cases h)
    | true =>
      rw [if_pos rfl, if_pos rfl]
      rcases inv with ⟨rfl, rfl, rfl⟩ | ⟨rfl, h1, h2, rfl⟩
      · rw [if_neg (by decide), if_pos (by decide)]
        exact take (fun j h1 h2 h3 => by have := (all j h1 h2 h3).1; cases this)
      · have hal : a < (xs.length : Int) := by omega
        have han : ¬ a < 0 := by omega
        simp only [if_true, if_neg han, if_pos h1, if_pos hal, bruk (k := k) (by omega), rbruk (k := k) (by omega), Option.bind_some]
        by_cases hg : bU (rd_T23 xs i) > bU (rd_T23 xs a)
        · rw [if_pos hg, if_pos hg]
          exact take (fun j h1 h2 h3 => by have := (all j h1 h2 h3).2; omega)
        · rw [if_neg hg, if_neg hg]
          exact skip (fun _ => ⟨rfl, by omega⟩)
theorem last_none (xs : List S23) (hn : xs.length ≤ 200) (b : S23) (s : Bool) (all : ∀ j : Int, 0 ≤ j → j < xs.length → bR (rd_T23 xs j) = true → s = true ∧ bU (rd_T23 xs j) ≤ bU b) :
    ∀ (t k : Nat) (i : Int), t + 11000 ≤ k → 0 ≤ i → i + t = xs.length → haversacklaw09_DateLast.l0 k s xs xs.length i b.f0 b.f1 b.f2 b.f3 b.f4 b.f5 b.f6 = some true := by
  intro t
  induction t with
  | zero =>
    intro k i hk h0 hi
    obtain ⟨k, rfl⟩ : ∃ m, k = m + 1 := ⟨k - 1, by omega⟩
    simp only [haversacklaw09_DateLast.l0]
    rw [if_neg (by omega), alive_k (by omega)]; rfl
  | succ t ih =>
    intro k i hk h0 hi
    obtain ⟨k, rfl⟩ : ∃ m, k = m + 1 := ⟨k - 1, by omega⟩
    simp only [haversacklaw09_DateLast.l0]
    have hw : wrap64 (i + 1) = i + 1 := w64 (by omega)
    have hlt : i < (xs.length : Int) := by omega
    simp only [if_pos hlt, if_pos h0, brk (k := k) (by omega), hw, ih k (i + 1) (by omega) (by omega) (by omega), Option.bind_some]
    cases hr : bR (rd_T23 xs i) with
    | false => rw [if_neg (by decide)]
    | true =>
      obtain ⟨rfl, hle⟩ := all i h0 (by omega) hr
      rw [if_pos rfl, if_pos rfl, bruk (by omega), bruk (by omega)]
      simp only [Option.bind_some]
      rw [if_neg (by omega)]
theorem DateLast : haversacklaw09_DateLast.Pure2 := by
  intro xs _ _
  refine ⟨11500, ?_⟩
  unfold haversacklaw09_DateLast.f
  by_cases hl : (xs.length : Int) > 200
  · rw [if_pos hl, alive_k (by omega)]; rfl
  · rw [if_neg hl]
    obtain ⟨b, s, h1, h2, all⟩ := last_both xs (by omega) xs.length 11500 0 (-1) false z23 (by omega) (by omega) (by omega) (.inl ⟨rfl, rfl, rfl⟩) (fun j a b => by omega)
    have e1 : date_Last.f 11500 xs = some (b.f0, b.f1, b.f2, b.f3, b.f4, b.f5, b.f6, s) := h1
    have e2 : haversackref09_Last.f 11500 xs = some (b.f0, b.f1, b.f2, b.f3, b.f4, b.f5, b.f6, s) := h2
    rw [e1, e2]
    simp only [Option.bind_some, beq_self_eq_true, Bool.not_true, Bool.or_self, Bool.false_eq_true, if_false, bne_self_eq_false]
    simp only [haversacklaw09_DateLast.j0, Bool.false_eq_true, if_false]
    exact last_none xs (by omega) b s all xs.length _ 0 (by omega) (by omega) (by omega)
end Go.Proofs.Ytooknjpdflokkaa.Pure
