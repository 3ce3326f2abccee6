/- YtakfdmhoooeejaaDoorMyWireM, as far as WireBytes needs it (prune.py). -/
import Derived.Test.YtakfdmhoooeejaaDoorWireBytesMyWireL
namespace Go.Proofs.YtakfdmhoooeejaaDoor.PP
open Go.RowKit Go.Proofs.YtakfdmhoooeejaaDoorW.PrintWords Go.Proofs.YtakfdmhoooeejaaDoorW.PrintLast Go.Proofs.YtakfdmhoooeejaaDoorW.PrintMore
open Go.Proofs.YtakfdmhoooeejaaDoor.My
set_option linter.unusedVariables false
set_option linter.unusedSimpArgs false
theorem rdB (xs : List ByteArray) (i : Nat) (h : i < xs.length) : rdOf ByteArray.empty xs (i : Int) = xs[i] := by
  unfold rdOf
  rw [Int.toNat_natCast, List.getD_eq_getElem?_getD, List.getElem?_eq_getElem h, Option.getD_some]
theorem dropB (xs : List ByteArray) (i : Nat) (h : i < xs.length) : xs.drop i = xs[i] :: xs.drop (i + 1) := List.drop_eq_getElem_cons h
theorem szs_cons (x : ByteArray) (xs : List ByteArray) : szs (x :: xs) = x.size + szs xs := by simp [szs]
theorem szs_nil : szs [] = 0 := rfl
theorem szs_mem {x : ByteArray} : ∀ {xs : List ByteArray}, x ∈ xs → x.size ≤ szs xs
  | y :: xs, h => by
    rw [szs_cons]
    rcases List.mem_cons.1 h with rfl | h
    · omega
    · have := szs_mem h; omega
theorem mn_eq (a b : Int) : (mn a b = a ∧ a ≤ b) ∨ (mn a b = b ∧ b < a) := by
  unfold mn
  by_cases h : b < a
  · rw [if_pos h]; exact .inr ⟨rfl, h⟩
  · rw [if_neg h]; exact .inl ⟨rfl, by omega⟩
theorem few_end (ts ls : List ByteArray) (x3 : Int) : ∃ r, (if (ts.length : Int) ≤ 40 then (if (ls.length : Int) ≤ 40 then (some (decide (x3 ≤ 20000))) else (some false)) else (some false)) = some r ∧ (r = true → ts.length ≤ 40 ∧ ls.length ≤ 40 ∧ x3 ≤ 20000) := by
  by_cases h1 : (ts.length : Int) ≤ 40
  · rw [if_pos h1]
    by_cases h2 : (ls.length : Int) ≤ 40
    · rw [if_pos h2]
      exact ⟨_, rfl, fun h => ⟨by omega, by omega, of_decide_eq_true h⟩⟩
    · rw [if_neg h2]
      exact ⟨_, rfl, fun h => by cases h⟩
  · rw [if_neg h1]
    exact ⟨_, rfl, fun h => by cases h⟩
theorem few_l1 (ts ls : List ByteArray) : ∀ (m i : Nat) (x3 : Int), i + m = 41 → 0 ≤ x3 → x3 ≤ 50000 * (41 + i) → ∃ r, Ev (fun k => haversacklaw13_few.l1 k x3 i ts ls) r ∧ (r = true → ts.length ≤ 40 ∧ ls.length ≤ 40 ∧ x3 + szs (ls.drop i) ≤ 20000)
  | m, i, x3, h, h0, hb => by
    obtain ⟨r, hr, hp⟩ := few_end ts ls x3
    by_cases h1 : (i : Int) < (ls.length : Int)
    · by_cases h2 : (i : Int) ≤ 40
      · obtain ⟨m, rfl⟩ : ∃ n, m = n + 1 := ⟨m - 1, by omega⟩
        have hmn := mn_eq (ls[i].size : Int) 50000
        have hw : wrap64 (x3 + mn (ls[i].size : Int) 50000) = x3 + mn (ls[i].size : Int) 50000 := w64 (by omega)
        obtain ⟨r, hr, hp⟩ := few_l1 ts ls m (i + 1) (x3 + mn (ls[i].size : Int) 50000) (by omega) (by omega) (by omega)
        refine ⟨r, Ev.go (fun k => ?_) hr, fun h => ?_⟩
        · rw [haversacklaw13_few.l1, if_pos h1, if_pos h2, if_pos (by omega), rdB ls i (by omega), hw, w64 (show -9223372036854775808 ≤ (i : Int) + 1 ∧ (i : Int) + 1 ≤ 9223372036854775807 by omega)]
          rfl
        · obtain ⟨a, b, c⟩ := hp h
          refine ⟨a, b, ?_⟩
          rw [dropB ls i (by omega), szs_cons]
          omega
      · refine ⟨r, Ev.go (h := fun _ => some r) (fun k => ?_) (Ev.ret _), fun h => ?_⟩
        · rw [haversacklaw13_few.l1, if_pos h1, if_neg h2, hr]
        · obtain ⟨a, b, c⟩ := hp h
          omega
    · refine ⟨r, Ev.go (h := fun _ => some r) (fun k => ?_) (Ev.ret _), fun h => ?_⟩
      · rw [haversacklaw13_few.l1, if_neg h1, hr]
      · obtain ⟨a, b, c⟩ := hp h
        refine ⟨a, b, ?_⟩
        rw [List.drop_eq_nil_of_le (by omega), szs_nil]
        omega
theorem few_l0 (ts ls : List ByteArray) : ∀ (m i : Nat) (x3 : Int), i + m = 41 → 0 ≤ x3 → x3 ≤ 50000 * i → ∃ r, Ev (fun k => haversacklaw13_few.l0 k x3 i ts ls) r ∧ (r = true → ts.length ≤ 40 ∧ ls.length ≤ 40 ∧ x3 + szs (ts.drop i) + szs ls ≤ 20000)
  | m, i, x3, h, h0, hb => by
    obtain ⟨r, hr, hp⟩ := few_l1 ts ls 41 0 x3 (by omega) h0 (by omega)
    have hr' : Ev (fun k => haversacklaw13_few.j1 k x3 ts ls) r := Ev.go (fun k => by rw [haversacklaw13_few.j1]; rfl) hr
    by_cases h1 : (i : Int) < (ts.length : Int)
    · by_cases h2 : (i : Int) ≤ 40
      · obtain ⟨m, rfl⟩ : ∃ n, m = n + 1 := ⟨m - 1, by omega⟩
        have hmn := mn_eq (ts[i].size : Int) 50000
        have hw : wrap64 (x3 + mn (ts[i].size : Int) 50000) = x3 + mn (ts[i].size : Int) 50000 := w64 (by omega)
        obtain ⟨r, hr, hp⟩ := few_l0 ts ls m (i + 1) (x3 + mn (ts[i].size : Int) 50000) (by omega) (by omega) (by omega)
        refine ⟨r, Ev.go (fun k => ?_) hr, fun h => ?_⟩
        · rw [haversacklaw13_few.l0, if_pos h1, if_pos h2, if_pos (by omega), rdB ts i (by omega), hw, w64 (show -9223372036854775808 ≤ (i : Int) + 1 ∧ (i : Int) + 1 ≤ 9223372036854775807 by omega)]
          rfl
        · obtain ⟨a, b, c⟩ := hp h
          refine ⟨a, b, ?_⟩
          rw [dropB ts i (by omega), szs_cons]
          omega
      · refine ⟨r, Ev.go (fun k => ?_) hr', fun h => ?_⟩
        · rw [haversacklaw13_few.l0, if_pos h1, if_neg h2]
        · obtain ⟨a, b, c⟩ := hp h
          omega
    · refine ⟨r, Ev.go (fun k => ?_) hr', fun h => ?_⟩
      · rw [haversacklaw13_few.l0, if_neg h1]
      · obtain ⟨a, b, c⟩ := hp h
        refine ⟨a, b, ?_⟩
        rw [List.drop_eq_nil_of_le (by omega), szs_nil]
        rw [List.drop_zero] at c
        omega
theorem few_ev (ts ls : List ByteArray) : ∃ r, Ev (fun k => haversacklaw13_few.f k ts ls) r ∧ (r = true → ts.length ≤ 40 ∧ ls.length ≤ 40 ∧ szs ts + szs ls ≤ 20000) := by
  obtain ⟨r, hr, hp⟩ := few_l0 ts ls 41 0 0 (by omega) (by omega) (by omega)
  refine ⟨r, Ev.same (fun k => by rw [haversacklaw13_few.f]; rfl) hr, fun h => ?_⟩
  obtain ⟨a, b, c⟩ := hp h
  rw [List.drop_zero] at c
  exact ⟨a, b, by omega⟩
end Go.Proofs.YtakfdmhoooeejaaDoor.PP
