/- YtakfdmhoooeejaaDoorMyWireP, as far as WireEnds needs it (prune.py). -/
import Derived.Test.YtakfdmhoooeejaaDoorWireEndsMyWireN
import Derived.Test.YtakfdmhoooeejaaDoorWireEndsMyWireI
namespace Go.Proofs.YtakfdmhoooeejaaDoor.PP
open Go.RowKit Go.Proofs.YtakfdmhoooeejaaDoorW.PrintWords Go.Proofs.YtakfdmhoooeejaaDoorW.PrintLast Go.Proofs.YtakfdmhoooeejaaDoorW.PrintMore
open Go.Proofs.YtakfdmhoooeejaaDoor.My
set_option linter.unusedVariables false
set_option linter.unusedSimpArgs false
/-- A line end brings all to its end. -/
def Qs (s : FS) : Prop := s.left = 0 ∧ (s.md = .skipLine ∨ (s.md = .line ∧ (s.line = [] ∨ ∃ p, s.line = p ++ [120])))
theorem mark_x (p : List UInt8) : markS (p ++ [120]) = none := by
  unfold markS
  rw [if_neg]
  rw [hasS_one]
  decide
theorem mark_nil : markS [] = none := by
  unfold markS
  rw [if_neg]
  decide
theorem Qs_line {s : FS} (hl : s.left = 0) (hm : s.md = .line) : Qs (stepS s 120).1 := by
  unfold stepS
  rw [hm]
  simp only
  unfold inLineS
  rw [if_neg (by decide)]
  by_cases h : s.size + (s.line.length + 1) - (if (120 : UInt8) = 13 then 1 else 0) ≤ 4000
  · rw [if_pos h]
    exact ⟨hl, .inr ⟨hm, .inr ⟨s.line, rfl⟩⟩⟩
  · rw [if_neg h]
    exact ⟨hl, .inl rfl⟩
theorem Qs_x {s : FS} (h : Qs s) : Qs (stepS s 120).1 := by
  obtain ⟨hl, hm | ⟨hm, _⟩⟩ := h
  · unfold stepS
    rw [hm]
    simp only
    unfold skipLineS
    rw [if_neg (by decide)]
    exact ⟨hl, .inl hm⟩
  · exact Qs_line hl hm
theorem Qs_xs : ∀ (n : Nat) {s : FS}, Qs s → Qs (takeS s (List.replicate n 120)).1
  | 0, s, h => h
  | n + 1, s, h => by
    rw [List.replicate_succ, takeS]
    exact Qs_xs n (Qs_x h)
theorem idle_begin {s : FS} (h : s.left = 0) : idleS (beginS s) = true := by
  unfold idleS beginS
  simp [h]
theorem Qs_end {s : FS} (h : Qs s) : idleS (stepS s 10).1 = true := by
  obtain ⟨hl, hm | ⟨hm, hx⟩⟩ := h
  · unfold stepS
    rw [hm]
    simp only
    unfold skipLineS
    rw [if_pos rfl]
    exact idle_begin hl
  · unfold stepS
    rw [hm]
    simp only
    unfold inLineS
    rw [if_pos rfl]
    have hmk : markS (Lib.trimSuffix s.line [13]) = none := by
      rcases hx with h | ⟨p, h⟩
      · rw [h]; exact mark_nil
      · rw [h, trimS_other _ (by decide)]
        exact mark_x p
    unfold endLineS
    rw [hmk]
    exact idle_begin hl
theorem take_skip : ∀ (n : Nat) (s : FS), s.md = .skipLit → (n : Int) < s.left → (takeS s (List.replicate n 120)).1 = { s with left := s.left - n }
  | 0, s, hm, hn => by simp [takeS]
  | n + 1, s, hm, hn => by
    rw [List.replicate_succ, takeS]
    have h1 : (stepS s 120).1 = { s with left := s.left - 1 } := by
      unfold stepS
      rw [hm]
      simp only
      unfold skipLitS skippedS
      rw [if_neg (by simp only; omega)]
      simp [hm]
    simp only [h1]
    have h2 := take_skip n { s with left := s.left - 1 } hm (by simp only; omega)
    rw [h2]
    simp only [FS.mk.injEq, true_and, and_true]
    omega
/-- How many rounds are wanted at most. -/
def rounds (s : FS) : Nat := if s.md = .skipLit then s.left.toNat / 50001 + 1 else 1
theorem rounds_pos (s : FS) : 1 ≤ rounds s := by unfold rounds; split <;> omega
theorem rep_add (a b : Nat) : (List.replicate (a + b) (120 : UInt8)) = List.replicate a 120 ++ List.replicate b 120 := by rw [List.replicate_append_replicate]
theorem round_law (s : FS) (h : Inv s) (n : Nat) (hn : n = 50000) : idleS (takeS (takeS s (List.replicate n 120)).1 [10]).1 = true ∨ rounds (takeS (takeS s (List.replicate n 120)).1 [10]).1 + 1 ≤ rounds s := by
  have hend : ∀ t : FS, (takeS t [10]).1 = (stepS t 10).1 := fun t => rfl
  rw [hend]
  have hmd := h.md
  unfold Waits at hmd
  cases hm : s.md
  · rw [hm] at hmd
    obtain ⟨_, _, hl, _⟩ := hmd
    left
    obtain ⟨m, rfl⟩ : ∃ m, n = m + 1 := ⟨n - 1, by omega⟩
    rw [List.replicate_succ, takeS]
    exact Qs_end (Qs_xs m (Qs_line hl hm))
  · rw [hm] at hmd
    obtain ⟨_, _, h1, h2, _⟩ := hmd
    left
    obtain ⟨a, ha⟩ : ∃ a : Nat, (a : Int) = s.left := ⟨s.left.toNat, by omega⟩
    obtain ⟨b, hb⟩ : ∃ b : Nat, n = a + b := ⟨n - a, by omega⟩
    rw [hb, rep_add, takeS_app]
    have ht := take_lit (List.replicate a 120) s hm (by intro e; have := congrArg List.length e; simp at this; omega) (by simp; omega)
    rw [ht]
    refine Qs_end (Qs_xs b ⟨rfl, .inr ⟨rfl, .inl rfl⟩⟩)
  · rw [hm] at hmd
    obtain ⟨_, _, _, hl, _⟩ := hmd
    left
    exact Qs_end (Qs_xs n ⟨hl, .inl hm⟩)
  · rw [hm] at hmd
    obtain ⟨_, _, _, h1, h2, _⟩ := hmd
    by_cases hc : s.left ≤ 50000
    · left
      obtain ⟨a, ha⟩ : ∃ a : Nat, (a : Int) + 1 = s.left := ⟨(s.left - 1).toNat, by omega⟩
      obtain ⟨b, hb⟩ : ∃ b : Nat, n = a + (b + 1) := ⟨n - a - 1, by omega⟩
      rw [hb, rep_add, takeS_app]
      simp only
      rw [take_skip a s hm (by omega), List.replicate_succ, takeS]
      refine Qs_end (Qs_xs b ?_)
      unfold stepS
      simp only [hm]
      unfold skipLitS skippedS
      rw [if_pos (by simp only; omega)]
      exact ⟨by simp only; omega, .inl rfl⟩
    · right
      rw [take_skip n s hm (by omega)]
      unfold stepS
      simp only [hm]
      unfold skipLitS skippedS
      have hr : rounds s = s.left.toNat / 50001 + 1 := by unfold rounds; rw [if_pos hm]
      split
      · rename_i h0
        simp only at h0
        rw [hr]
        unfold rounds
        rw [if_neg (by simp)]
        omega
      · rename_i h0
        simp only at h0
        rw [hr]
        unfold rounds
        rw [if_pos rfl]
        simp only
        omega
theorem idle_end (s : FS) (h : Inv s) (hi : idleS s = true) : (takeS s [10]).1 = fs0 := by
  unfold idleS at hi
  simp only [Bool.and_eq_true, decide_eq_true_eq, Bool.not_eq_true'] at hi
  obtain ⟨⟨⟨h1, h2⟩, h3⟩, h4⟩ := hi
  have hmd := h.md
  unfold Waits at hmd
  have hm : s.md = .line := by
    cases hm : s.md
    · rfl
    · rw [hm] at hmd
      have := hmd.2.2.1
      omega
    · rw [hm] at hmd
      rw [hmd.2.2.2.2.1] at h4; cases h4
    · rw [hm] at hmd
      rw [hmd.2.2.2.2.2.1] at h4; cases h4
  show (stepS s 10).1 = fs0
  unfold stepS
  rw [hm]
  simp only
  unfold inLineS
  rw [if_pos rfl, List.eq_nil_of_length_eq_zero h1]
  have : Lib.trimSuffix ([] : List UInt8) [13] = [] := by decide
  rw [this]
  unfold endLineS
  rw [mark_nil]
  simp [beginS, fs0, h3]
end Go.Proofs.YtakfdmhoooeejaaDoor.PP
