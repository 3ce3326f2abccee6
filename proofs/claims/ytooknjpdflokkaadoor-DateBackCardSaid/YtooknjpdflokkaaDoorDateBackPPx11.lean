/- YtooknjpdflokkaaDoorPPx11, as far as DateBack needs it (prune.py). -/
import Derived.Test.YtooknjpdflokkaaDoorDateBackPPx0
import Derived.Test.YtooknjpdflokkaaDoorDateBackPPx10
namespace Go.Proofs.YtooknjpdflokkaaDoor.PP
open Go.RowKit Go.Proofs.YtooknjpdflokkaaDoorW.PrintWords Go.Proofs.YtooknjpdflokkaaDoorW.PrintLast Go.Proofs.YtooknjpdflokkaaDoorW.PrintMore
attribute [local go_sem] max2_int min2_int max_two min_two max_three min_three max_four min_four   -- for this text's walks alone
open Go.Proofs.YtooknjpdflokkaaDoor.My
set_option linter.unusedVariables false
set_option linter.unusedSimpArgs false
def atB (u z : Int) : Bool := decide (-1439 ≤ z ∧ z ≤ 1439 ∧ -1125899906842624 ≤ u ∧ u ≤ 1125899906842624)
def date_At.f (k : Nat) (a0 a1 : Int) : Option (Int × Int × Int × Int × Int × Int × Int) :=
 if atB a0 a1 = true then
  (date_Civil.f k ((a0 + a1 * 60) / 86400)).map fun c => if c.1 = 0 then (0, 0, 0, 0, 0, 0, 0) else (c.1, c.2.1, c.2.2, (a0 + a1 * 60) % 86400 / 3600, (a0 + a1 * 60) % 86400 / 60 % 60, (a0 + a1 * 60) % 86400 % 60, a1)
 else some (0, 0, 0, 0, 0, 0, 0)
set_option maxHeartbeats 1000000 in
set_option maxRecDepth 100000 in
theorem at_bad (a0 a1 : Int) (w : World) (h : atB a0 a1 = false) :
  Calls Tryd.prog 15 #[.int .i64 a0, .int .i64 a1] w fun e w' => e = .returned (.agg #[.int .i64 0, .int .i64 0, .int .i64 0, .int .i64 0, .int .i64 0, .int .i64 0, .int .i64 0]) ∧ Below w.heap.size w w' := by
 unfold atB at h
 rw [decide_eq_false_iff_not] at h
 by_cases h1 : a1 < -1439
 ·
  clear h
  go_enter Tryd.func15, Tryd.ntmps15
  go_wp2
  exact bodyPost_ret (v := .agg #[.int .i64 0, .int .i64 0, .int .i64 0, .int .i64 0, .int .i64 0, .int .i64 0, .int .i64 0]) (by simp [results, Tryd.results15, go_sem]) rfl ⟨rfl, (Below.refl _ _).alloc (Nat.le_refl _) _⟩
 ·
  by_cases h2 : a1 > 1439
  ·
   clear h
   go_enter Tryd.func15, Tryd.ntmps15
   go_wp2
   exact bodyPost_ret (v := .agg #[.int .i64 0, .int .i64 0, .int .i64 0, .int .i64 0, .int .i64 0, .int .i64 0, .int .i64 0]) (by simp [results, Tryd.results15, go_sem]) rfl ⟨rfl, (Below.refl _ _).alloc (Nat.le_refl _) _⟩
  ·
   by_cases h3 : a0 < -1125899906842624
   ·
    clear h
    go_enter Tryd.func15, Tryd.ntmps15
    go_wp2
    exact bodyPost_ret (v := .agg #[.int .i64 0, .int .i64 0, .int .i64 0, .int .i64 0, .int .i64 0, .int .i64 0, .int .i64 0]) (by simp [results, Tryd.results15, go_sem]) rfl ⟨rfl, (Below.refl _ _).alloc (Nat.le_refl _) _⟩
   ·
    have h4 : a0 > 1125899906842624 := by omega
    clear h
    go_enter Tryd.func15, Tryd.ntmps15
    go_wp2
    exact bodyPost_ret (v := .agg #[.int .i64 0, .int .i64 0, .int .i64 0, .int .i64 0, .int .i64 0, .int .i64 0, .int .i64 0]) (by simp [results, Tryd.results15, go_sem]) rfl ⟨rfl, (Below.refl _ _).alloc (Nat.le_refl _) _⟩
set_option maxHeartbeats 1000000 in
set_option maxRecDepth 100000 in
theorem at_pos (k : Nat) (a0 a1 x q s : Int) (y m d : Int) (w : World) (h1 : -1439 ≤ a1) (h2 : a1 ≤ 1439) (h3 : -1125899906842624 ≤ a0) (h4 : a0 ≤ 1125899906842624)
  (hx : a0 + a1 * 60 = x) (hq : x.tdiv 86400 = q) (hs : x.tmod 86400 = s) (hs0 : 0 ≤ s) (hs1 : s < 86400) (hq0 : -20000000000 ≤ q) (hq1 : q ≤ 20000000000) (hy : ¬ y = 0)
  (hc : date_Civil.f k q = some (y, m, d)) :
  Calls Tryd.prog 15 #[.int .i64 a0, .int .i64 a1] w fun e w' => e = .returned (.agg #[.int .i64 y, .int .i64 m, .int .i64 d, .int .i64 (s / 3600), .int .i64 (s / 60 % 60), .int .i64 (s % 60), .int .i64 a1]) ∧ Below w.heap.size w w' := by
 have HC := Aside0.mk hc
 have hyb : (y == 0) = false := beq_eq_false_iff_ne.2 hy
 clear hc hy
 go_enter Tryd.func15, Tryd.ntmps15
 go_wp2_with fail
 refine (date_Civil.calls k _ y m d _ HC.out).mono ?_
 rintro e w1 ⟨rfl, ⟨⟨n1, rfl⟩⟩⟩
 go_wp2_with fail
 refine bodyPost_ret (v := .agg #[.int .i64 y, .int .i64 m, .int .i64 d, .int .i64 (s / 3600), .int .i64 (s / 60 % 60), .int .i64 (s % 60), .int .i64 a1]) (by simp [results, Tryd.results15, go_sem]) rfl ⟨rfl, ?_⟩
 with_reducible repeat (first | exact Below.refl _ _ | apply below_alloc | apply pw_below_drewN | refine below_set ?_ (by first | exact Nat.le_refl _ | exact Nat.le_succ _))
set_option maxHeartbeats 1000000 in
set_option maxRecDepth 100000 in
theorem at_pos0 (k : Nat) (a0 a1 x q s : Int) (y m d : Int) (w : World) (h1 : -1439 ≤ a1) (h2 : a1 ≤ 1439) (h3 : -1125899906842624 ≤ a0) (h4 : a0 ≤ 1125899906842624)
  (hx : a0 + a1 * 60 = x) (hq : x.tdiv 86400 = q) (hs : x.tmod 86400 = s) (hs0 : 0 ≤ s) (hs1 : s < 86400) (hq0 : -20000000000 ≤ q) (hq1 : q ≤ 20000000000) (hy : y = 0)
  (hc : date_Civil.f k q = some (y, m, d)) :
  Calls Tryd.prog 15 #[.int .i64 a0, .int .i64 a1] w fun e w' => e = .returned (.agg #[.int .i64 0, .int .i64 0, .int .i64 0, .int .i64 0, .int .i64 0, .int .i64 0, .int .i64 0]) ∧ Below w.heap.size w w' := by
 have HC := Aside0.mk hc
 have hyb : (y == 0) = true := beq_iff_eq.2 hy
 clear hc hy
 go_enter Tryd.func15, Tryd.ntmps15
 go_wp2_with fail
 refine (date_Civil.calls k _ y m d _ HC.out).mono ?_
 rintro e w1 ⟨rfl, ⟨⟨n1, rfl⟩⟩⟩
 go_wp2_with fail
 refine bodyPost_ret (v := .agg #[.int .i64 0, .int .i64 0, .int .i64 0, .int .i64 0, .int .i64 0, .int .i64 0, .int .i64 0]) (by simp [results, Tryd.results15, go_sem]) rfl ⟨rfl, ?_⟩
 with_reducible repeat (first | exact Below.refl _ _ | apply below_alloc | apply pw_below_drewN | refine below_set ?_ (by first | exact Nat.le_refl _ | exact Nat.le_succ _))
set_option maxHeartbeats 1000000 in
set_option maxRecDepth 100000 in
theorem at_neg (k : Nat) (a0 a1 x q s : Int) (y m d : Int) (w : World) (h1 : -1439 ≤ a1) (h2 : a1 ≤ 1439) (h3 : -1125899906842624 ≤ a0) (h4 : a0 ≤ 1125899906842624)
  (hx : a0 + a1 * 60 = x) (hq : x.tdiv 86400 = q) (hs : x.tmod 86400 = s) (hs0 : s < 0) (hs1 : -86400 ≤ s) (hq0 : -20000000000 ≤ q) (hq1 : q ≤ 20000000000) (hy : ¬ y = 0)
  (hc : date_Civil.f k (q - 1) = some (y, m, d)) :
  Calls Tryd.prog 15 #[.int .i64 a0, .int .i64 a1] w fun e w' => e = .returned (.agg #[.int .i64 y, .int .i64 m, .int .i64 d, .int .i64 ((s + 86400) / 3600), .int .i64 ((s + 86400) / 60 % 60), .int .i64 ((s + 86400) % 60), .int .i64 a1]) ∧ Below w.heap.size w w' := by
 have HC := Aside0.mk hc
 have hyb : (y == 0) = false := beq_eq_false_iff_ne.2 hy
 clear hc hy
 go_enter Tryd.func15, Tryd.ntmps15
 go_wp2_with fail
 refine (date_Civil.calls k _ y m d _ HC.out).mono ?_
 rintro e w1 ⟨rfl, ⟨⟨n1, rfl⟩⟩⟩
 go_wp2_with fail
 refine bodyPost_ret (v := .agg #[.int .i64 y, .int .i64 m, .int .i64 d, .int .i64 ((s + 86400) / 3600), .int .i64 ((s + 86400) / 60 % 60), .int .i64 ((s + 86400) % 60), .int .i64 a1]) (by simp [results, Tryd.results15, go_sem]) rfl ⟨rfl, ?_⟩
 with_reducible repeat (first | exact Below.refl _ _ | apply below_alloc | apply pw_below_drewN | refine below_set ?_ (by first | exact Nat.le_refl _ | exact Nat.le_succ _))
set_option maxHeartbeats 1000000 in
set_option maxRecDepth 100000 in
theorem at_neg0 (k : Nat) (a0 a1 x q s : Int) (y m d : Int) (w : World) (h1 : -1439 ≤ a1) (h2 : a1 ≤ 1439) (h3 : -1125899906842624 ≤ a0) (h4 : a0 ≤ 1125899906842624)
  (hx : a0 + a1 * 60 = x) (hq : x.tdiv 86400 = q) (hs : x.tmod 86400 = s) (hs0 : s < 0) (hs1 : -86400 ≤ s) (hq0 : -20000000000 ≤ q) (hq1 : q ≤ 20000000000) (hy : y = 0)
  (hc : date_Civil.f k (q - 1) = some (y, m, d)) :
  Calls Tryd.prog 15 #[.int .i64 a0, .int .i64 a1] w fun e w' => e = .returned (.agg #[.int .i64 0, .int .i64 0, .int .i64 0, .int .i64 0, .int .i64 0, .int .i64 0, .int .i64 0]) ∧ Below w.heap.size w w' := by
 have HC := Aside0.mk hc
 have hyb : (y == 0) = true := beq_iff_eq.2 hy
 clear hc hy
 go_enter Tryd.func15, Tryd.ntmps15
 go_wp2_with fail
 refine (date_Civil.calls k _ y m d _ HC.out).mono ?_
 rintro e w1 ⟨rfl, ⟨⟨n1, rfl⟩⟩⟩
 go_wp2_with fail
 refine bodyPost_ret (v := .agg #[.int .i64 0, .int .i64 0, .int .i64 0, .int .i64 0, .int .i64 0, .int .i64 0, .int .i64 0]) (by simp [results, Tryd.results15, go_sem]) rfl ⟨rfl, ?_⟩
 with_reducible repeat (first | exact Below.refl _ _ | apply below_alloc | apply pw_below_drewN | refine below_set ?_ (by first | exact Nat.le_refl _ | exact Nat.le_succ _))
theorem tdm (x : Int) : (0 ≤ x.tmod 86400 ∧ x / 86400 = x.tdiv 86400 ∧ x % 86400 = x.tmod 86400) ∨ (x.tmod 86400 < 0 ∧ x / 86400 = x.tdiv 86400 - 1 ∧ x % 86400 = x.tmod 86400 + 86400) := by
 have h1 := Int.mul_tdiv_add_tmod x 86400
 rcases Int.le_total 0 x with h | h
 ·
  left
  rw [Int.tdiv_eq_ediv_of_nonneg h, Int.tmod_eq_emod_of_nonneg h]; omega
 ·
  obtain ⟨y, rfl⟩ : ∃ y, x = -y := ⟨-x, by omega⟩
  have hy : 0 ≤ y := by omega
  rw [Int.neg_tdiv, Int.neg_tmod, Int.tdiv_eq_ediv_of_nonneg hy, Int.tmod_eq_emod_of_nonneg hy]
  by_cases hz : y % 86400 = 0
  ·
   left; omega
  ·
   right; omega
theorem date_At.calls (k : Nat) (a0 a1 : Int) (r1 r2 r3 r4 r5 r6 r7 : Int) (w : World) (h : date_At.f k a0 a1 = some (r1, r2, r3, r4, r5, r6, r7)) :
  Calls Tryd.prog 15 #[.int .i64 a0, .int .i64 a1] w fun e w' => e = .returned (.agg #[.int .i64 r1, .int .i64 r2, .int .i64 r3, .int .i64 r4, .int .i64 r5, .int .i64 r6, .int .i64 r7]) ∧ Below w.heap.size w w' := by
 unfold date_At.f at h
 cases hb : atB a0 a1 with
 | false =>
  rw [hb, if_neg (by simp)] at h
  injection h with h
  simp only [Prod.mk.injEq] at h
  obtain ⟨rfl, rfl, rfl, rfl, rfl, rfl, rfl⟩ := h
  exact at_bad a0 a1 w hb
 | true =>
  rw [hb, if_pos rfl] at h
  unfold atB at hb
  rw [decide_eq_true_iff] at hb
  obtain ⟨h1, h2, h3, h4⟩ := hb
  cases hc : date_Civil.f k ((a0 + a1 * 60) / 86400) with
  | none => rw [hc] at h; cases h
  | some c =>
   obtain ⟨y, m, d⟩ := c
   rw [hc] at h
   simp only [Option.map_some] at h
   injection h with h
   rcases tdm (a0 + a1 * 60) with ⟨e0, e1, e2⟩ | ⟨e0, e1, e2⟩
   ·
    rw [e1] at hc
    rw [e2] at h
    by_cases hy : y = 0
    ·
     rw [if_pos hy] at h
     simp only [Prod.mk.injEq] at h
     obtain ⟨rfl, rfl, rfl, rfl, rfl, rfl, rfl⟩ := h
     exact at_pos0 k a0 a1 _ _ _ y m d w h1 h2 h3 h4 rfl rfl rfl e0 (by omega) (by omega) (by omega) hy hc
    ·
     rw [if_neg hy] at h
     simp only [Prod.mk.injEq] at h
     obtain ⟨rfl, rfl, rfl, rfl, rfl, rfl, rfl⟩ := h
     exact at_pos k a0 a1 _ _ _ _ _ _ w h1 h2 h3 h4 rfl rfl rfl e0 (by omega) (by omega) (by omega) hy hc
   ·
    rw [e1] at hc
    rw [e2] at h
    by_cases hy : y = 0
    ·
     rw [if_pos hy] at h
     simp only [Prod.mk.injEq] at h
     obtain ⟨rfl, rfl, rfl, rfl, rfl, rfl, rfl⟩ := h
     exact at_neg0 k a0 a1 _ _ _ y m d w h1 h2 h3 h4 rfl rfl rfl e0 (by omega) (by omega) (by omega) hy hc
    ·
     rw [if_neg hy] at h
     simp only [Prod.mk.injEq] at h
     obtain ⟨rfl, rfl, rfl, rfl, rfl, rfl, rfl⟩ := h
     exact at_neg k a0 a1 _ _ _ _ _ _ w h1 h2 h3 h4 rfl rfl rfl e0 (by omega) (by omega) (by omega) hy hc
end Go.Proofs.YtooknjpdflokkaaDoor.PP
