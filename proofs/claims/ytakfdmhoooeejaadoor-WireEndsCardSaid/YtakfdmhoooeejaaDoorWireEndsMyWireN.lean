/- YtakfdmhoooeejaaDoorMyWireN, as far as WireEnds needs it (prune.py). -/
import Derived.Test.YtakfdmhoooeejaaDoorWireEndsMyWireM
namespace Go.Proofs.YtakfdmhoooeejaaDoor.PP
open Go.RowKit Go.Proofs.YtakfdmhoooeejaaDoorW.PrintWords Go.Proofs.YtakfdmhoooeejaaDoorW.PrintLast Go.Proofs.YtakfdmhoooeejaaDoorW.PrintMore
open Go.Proofs.YtakfdmhoooeejaaDoor.My
set_option linter.unusedVariables false
set_option linter.unusedSimpArgs false
theorem isStr (s : ByteArray) : ∃ l, s = str l := ⟨s.data.toList, rfl⟩
theorem clean_l1 (P : Prop) (xs : List ByteArray) (n i : Int) (x3 : Int) (l : List UInt8) (hl : l.length ≤ 1000000000000000)
    (hk : ∃ r, Ev (fun k => haversacklaw13_clean.l0 k x3 xs n (wrap64 (i + 1))) r ∧ (r = true → P)) :
    ∀ (m j : Nat), j + m = l.length → ∃ r, Ev (fun k => haversacklaw13_clean.l1 k x3 (str l) xs n i (l.length : Int) j) r ∧ (r = true → (∀ c ∈ l.drop j, c ≠ 10) ∧ markS l = none ∧ P)
  | 0, j, h => by
    obtain ⟨mk, hmk, hmp⟩ := mark_ev l hl
    obtain ⟨r, hr, hp⟩ := hk
    have hdrop : l.drop j = [] := List.drop_eq_nil_of_le (by omega)
    have hz : (str l).size = l.length := rfl
    have hgo : ∀ k, haversacklaw13_clean.l1 (k + 1) x3 (str l) xs n i (l.length : Int) j = ((haversackref13_Mark.f k (str l)).bind fun bt123 => (if ((str l).size : Int) > 0 then (if 0 ≤ (wrap64 (((str l).size : Int) - 1)) then (if (wrap64 (((str l).size : Int) - 1)) < ((str l).size : Int) then (if (bt (str l) (wrap64 (((str l).size : Int) - 1))) = 13 then (some false) else (if bt123.1 ≥ 0 then (some false) else (haversacklaw13_clean.l0 k x3 xs n (wrap64 (i + 1))))) else (none)) else (none)) else (if bt123.1 ≥ 0 then (some false) else (haversacklaw13_clean.l0 k x3 xs n (wrap64 (i + 1)))))) := fun k => by
      rw [haversacklaw13_clean.l1, if_neg (by omega)]
    have hfin : ∀ (g : Nat → Option Bool), (∀ k, g k = (if mk.1 ≥ 0 then (some false) else (haversacklaw13_clean.l0 k x3 xs n (wrap64 (i + 1))))) → ∃ r, Ev g r ∧ (r = true → (∀ c ∈ l.drop j, c ≠ 10) ∧ markS l = none ∧ P) := by
      intro g hg
      by_cases h1 : mk.1 ≥ 0
      · exact ⟨false, Ev.same (fun k => by rw [hg, if_pos h1]) (Ev.ret _), fun h => by cases h⟩
      · exact ⟨r, Ev.same (fun k => by rw [hg, if_neg h1]) hr, fun h => ⟨by rw [hdrop]; simp, hmp (by omega), hp h⟩⟩
    by_cases h0 : ((str l).size : Int) > 0
    · have hw : wrap64 (((str l).size : Int) - 1) = (str l).size - 1 := w64 (by omega)
      by_cases h13 : (bt (str l) (wrap64 (((str l).size : Int) - 1))) = 13
      · exact ⟨false, Ev.go hgo (Ev.bd hmk (Ev.same (fun k => by rw [if_pos h0, if_pos (by omega), if_pos (by omega), if_pos h13]) (Ev.ret _))), fun h => by cases h⟩
      · obtain ⟨r, hr, hp⟩ := hfin (fun k => if mk.1 ≥ 0 then (some false) else (haversacklaw13_clean.l0 k x3 xs n (wrap64 (i + 1)))) (fun _ => rfl)
        exact ⟨r, Ev.go hgo (Ev.bd hmk (Ev.same (fun k => by rw [if_pos h0, if_pos (by omega), if_pos (by omega), if_neg h13]) hr)), hp⟩
    · obtain ⟨r, hr, hp⟩ := hfin (fun k => if mk.1 ≥ 0 then (some false) else (haversacklaw13_clean.l0 k x3 xs n (wrap64 (i + 1)))) (fun _ => rfl)
      exact ⟨r, Ev.go hgo (Ev.bd hmk (Ev.same (fun k => by rw [if_neg h0]) hr)), hp⟩
  | m + 1, j, h => by
    have hb := bt_str l j (by omega)
    by_cases h10 : (bt (str l) (j : Int)) = 10
    · refine ⟨false, Ev.go (h := fun _ => some false) (fun k => ?_) (Ev.ret _), fun h => by cases h⟩
      rw [haversacklaw13_clean.l1, if_pos (by omega), if_pos (by omega), if_pos (by rw [str_size]; omega), if_pos h10]
    · obtain ⟨r, hr, hp⟩ := clean_l1 P xs n i x3 l hl hk m (j + 1) (by omega)
      refine ⟨r, Ev.go (fun k => ?_) hr, fun h => ?_⟩
      · rw [haversacklaw13_clean.l1, if_pos (by omega), if_pos (by omega), if_pos (by rw [str_size]; omega), if_neg h10, w64 (show -9223372036854775808 ≤ (j : Int) + 1 ∧ (j : Int) + 1 ≤ 9223372036854775807 by omega)]
        rfl
      · obtain ⟨a, b, c⟩ := hp h
        refine ⟨fun c hc => ?_, b, c⟩
        rw [List.drop_eq_getElem_cons (by omega)] at hc
        rcases List.mem_cons.1 hc with rfl | hc
        · intro e
          rw [hb, List.getD_eq_getElem?_getD, List.getElem?_eq_getElem (by omega), Option.getD_some, e] at h10
          exact h10 rfl
        · exact a c hc
theorem clean_l0 (xs : List ByteArray) (hsz : ∀ t ∈ xs, t.size ≤ 1000000000000000) (hx : xs.length ≤ 100) : ∀ (m i : Nat) (x3 : Int), i + m = xs.length → 0 ≤ x3 → x3 ≤ 200 + 1000000000000000 * i →
    ∃ r, Ev (fun k => haversacklaw13_clean.l0 k x3 xs (xs.length : Int) i) r ∧ (r = true → (∀ t ∈ xs.drop i, plainT t) ∧ x3 + szs (xs.drop i) ≤ 4000)
  | 0, i, x3, h, h0, hb => by
    refine ⟨_, Ev.go (fun k => by rw [haversacklaw13_clean.l0, if_neg (by omega)]) (Ev.ret _), fun h => ?_⟩
    rw [List.drop_eq_nil_of_le (by omega), szs_nil]
    have := of_decide_eq_true h
    exact ⟨by simp, by omega⟩
  | m + 1, i, x3, h, h0, hb => by
    have hi : i < xs.length := by omega
    have hxi := hsz _ (List.getElem_mem hi)
    obtain ⟨l, hl⟩ := isStr xs[i]
    have hll : xs[i].size = l.length := by rw [hl]; rfl
    have hw : wrap64 (x3 + (xs[i].size : Int)) = x3 + (xs[i].size : Int) := w64 (by omega)
    have ih := clean_l0 xs hsz hx m (i + 1) (x3 + (xs[i].size : Int)) (by omega) (by omega) (by omega)
    have hwi : wrap64 ((i : Int) + 1) = ((i + 1 : Nat) : Int) := by rw [w64 (by omega)]; rfl
    rw [← hwi] at ih
    obtain ⟨r, hr, hp⟩ := clean_l1 _ xs (xs.length : Int) (i : Int) (x3 + (xs[i].size : Int)) l (by omega) ih l.length 0 (by omega)
    refine ⟨r, Ev.go (fun k => ?_) hr, fun h => ?_⟩
    · rw [haversacklaw13_clean.l0, if_pos (by omega), if_pos (by omega), if_pos (by omega), rdB xs i hi, hw, hll, hl]
      rfl
    · obtain ⟨a, b, c, d⟩ := hp h
      rw [dropB xs i hi, szs_cons]
      refine ⟨fun t ht => ?_, by omega⟩
      rcases List.mem_cons.1 ht with rfl | ht
      · rw [List.drop_zero] at a
        refine ⟨?_, ?_⟩
        · rw [hl]; exact a
        · rw [hl]; exact b
      · exact c t ht
theorem clean_ev (ts ls : List ByteArray) (hsz : ∀ t ∈ ts, t.size ≤ 1000000000000000) (hl : ls.length ≤ 1000000000000000) : ∃ r, Ev (fun k => haversacklaw13_clean.f k ts ls) r ∧ (r = true → ts.length = ls.length + 1 ∧ ls.length ≤ 20 ∧ (∀ t ∈ ts, plainT t) ∧ 8 * ls.length + szs ts ≤ 4000) := by
  have hw : wrap64 ((ls.length : Int) + 1) = (ls.length : Int) + 1 := w64 (by omega)
  have ht : Ev (fun k => haversacklaw13_clean.j0 k true ts ls) false := Ev.go (fun k => by rw [haversacklaw13_clean.j0, if_pos rfl]) (Ev.ret _)
  by_cases h1 : (ts.length : Int) = wrap64 ((ls.length : Int) + 1)
  · by_cases h2 : (ls.length : Int) > 20
    · exact ⟨false, Ev.same (fun k => by rw [haversacklaw13_clean.f, if_pos h1, decide_eq_true h2]) ht, fun h => by cases h⟩
    · have hw8 : wrap64 (8 * (ls.length : Int)) = 8 * (ls.length : Int) := w64 (by omega)
      obtain ⟨r, hr, hp⟩ := clean_l0 ts hsz (by omega) ts.length 0 (8 * (ls.length : Int)) (by omega) (by omega) (by omega)
      refine ⟨r, Ev.same (fun k => by rw [haversacklaw13_clean.f, if_pos h1, decide_eq_false h2]) (Ev.go (fun k => by rw [haversacklaw13_clean.j0, if_neg (by decide), hw8]; rfl) hr), fun h => ?_⟩
      obtain ⟨a, b⟩ := hp h
      rw [List.drop_zero] at a b
      exact ⟨by omega, by omega, a, by omega⟩
  · exact ⟨false, Ev.same (fun k => by rw [haversacklaw13_clean.f, if_neg h1]) ht, fun h => by cases h⟩
theorem lb_app (a b : ByteArray) : lbytes (a ++ b) = lbytes a ++ lbytes b := by simp [lbytes]
theorem lb_ext {a b : ByteArray} (h : lbytes a = lbytes b) : a = b := by
  have : str (lbytes a) = str (lbytes b) := by rw [h]
  exact this
end Go.Proofs.YtakfdmhoooeejaaDoor.PP
