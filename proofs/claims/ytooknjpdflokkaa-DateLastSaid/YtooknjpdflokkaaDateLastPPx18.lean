/- YtooknjpdflokkaaPPx18, as far as DateLast needs it (prune.py). -/
import Derived.Test.YtooknjpdflokkaaDateLastPPx0
import Derived.Test.YtooknjpdflokkaaDateLastPPx3
import Derived.Test.YtooknjpdflokkaaDateLastPPx8
namespace Go.Proofs.Ytooknjpdflokkaa.PP
open Go.RowKit Go.Proofs.YtooknjpdflokkaaW.PrintWords Go.Proofs.YtooknjpdflokkaaW.PrintLast Go.Proofs.YtooknjpdflokkaaW.PrintMore
attribute [local go_sem] max2_int min2_int max_two min_two max_three min_three max_four min_four   -- for this text's walks alone
open Go.Proofs.Ytooknjpdflokkaa.My
set_option linter.unusedVariables false
set_option linter.unusedSimpArgs false
def date_Last.l0 : Nat → Bool → List (S23) → Int → Int → Int → Int → Int → Int → Int → Int → Int → Option (Int × Int × Int × Int × Int × Int × Int × Bool)
  | 0, _, _, _, _, _, _, _, _, _, _, _ => none
  | k + 1, x5, x8, x9, x10, x245000, x245001, x245002, x245003, x245004, x245005, x245006 => if x10 < x9 then (if 0 ≤ x10 then (if x10 < (x8.length : Int) then ((date_Right.f k ((rd_T23 x8 x10).f0) ((rd_T23 x8 x10).f1) ((rd_T23 x8 x10).f2) ((rd_T23 x8 x10).f3) ((rd_T23 x8 x10).f4) ((rd_T23 x8 x10).f5) ((rd_T23 x8 x10).f6)).bind fun t247 => (if t247 = true then (if x5 = true then ((date_Unix.f k ((rd_T23 x8 x10).f0) ((rd_T23 x8 x10).f1) ((rd_T23 x8 x10).f2) ((rd_T23 x8 x10).f3) ((rd_T23 x8 x10).f4) ((rd_T23 x8 x10).f5) ((rd_T23 x8 x10).f6)).bind fun t248 => ((date_Unix.f k x245000 x245001 x245002 x245003 x245004 x245005 x245006).bind fun t249 => (if t248 > t249 then (date_Last.l0 k true x8 x9 (wrap64 (x10 + 1)) ((rd_T23 x8 x10).f0) ((rd_T23 x8 x10).f1) ((rd_T23 x8 x10).f2) ((rd_T23 x8 x10).f3) ((rd_T23 x8 x10).f4) ((rd_T23 x8 x10).f5) ((rd_T23 x8 x10).f6)) else (date_Last.l0 k x5 x8 x9 (wrap64 (x10 + 1)) x245000 x245001 x245002 x245003 x245004 x245005 x245006)))) else (date_Last.l0 k true x8 x9 (wrap64 (x10 + 1)) ((rd_T23 x8 x10).f0) ((rd_T23 x8 x10).f1) ((rd_T23 x8 x10).f2) ((rd_T23 x8 x10).f3) ((rd_T23 x8 x10).f4) ((rd_T23 x8 x10).f5) ((rd_T23 x8 x10).f6))) else (date_Last.l0 k x5 x8 x9 (wrap64 (x10 + 1)) x245000 x245001 x245002 x245003 x245004 x245005 x245006))) else (none)) else (none)) else (some (x245000, x245001, x245002, x245003, x245004, x245005, x245006, x5))
def date_Last.f (k : Nat) (l0 : List (S23)) : Option (Int × Int × Int × Int × Int × Int × Int × Bool) := date_Last.l0 k false l0 (l0.length : Int) 0 0 0 0 0 0 0 0
def date_Last.T6 : Bool × List (List Nat × List Nat) := (true, [([], []), ([0], [0]), ([1, 1], [1]), ([2], [2]), ([3, 2], [2, 3]), ([4, 2, 2], [2, 4]), ([5], [5]), ([6, 5, 5], [5, 6]), ([5], [5]), ([8, 7, 5], [5, 8]), ([7, 9, 5], [5, 7, 9]), ([5, 10, 2], [2, 5, 10]), ([2, 11], [2, 11])])
def date_Last.B6 : List Nat := [0, 1, 3, 7, 15, 31, 63, 127, 63, 511, 1023, 2047, 4095]
theorem date_Last.tab6 : rtab .any (opsOf Try.f14 6) = date_Last.T6 := by kernel_rfl
theorem date_Last.bits6 : waitsOk date_Last.T6.2 date_Last.B6 = true := by kernel_rfl
set_option maxHeartbeats 8000000 in
set_option maxRecDepth 100000 in
theorem date_Last.calls (k : Nat) (A0 : Option Addr) (c0 : Nat) (l0 : List (S23)) (r1 : Int) (r2 : Int) (r3 : Int) (r4 : Int) (r5 : Int) (r6 : Int) (r7 : Int) (r8 : Bool) (w : World) (hr0 : Kd.C k23 w A0 l0.length l0) (hc0 : l0.length ≤ c0) (h : date_Last.f k l0 = some (r1, r2, r3, r4, r5, r6, r7, r8)) :
    Calls Try.prog 14 #[.slice A0 l0.length c0] w fun e w' => e = .returned (.tuple #[.agg #[.int .i64 r1, .int .i64 r2, .int .i64 r3, .int .i64 r4, .int .i64 r5, .int .i64 r6, .int .i64 r7], .bool r8]) ∧ Below w.heap.size w w' := by
  have hu23 := Try.underlying23
  have HR0 := Aside0.mk hr0
  have HC0 := Aside0.mk hc0
  clear hr0 hc0
  have HB := Aside0.mk (Below.refl w.heap.size w)
  have H : (date_Last.l0 k false l0 (l0.length : Int) 0 0 0 0 0 0 0 0) = some (r1, r2, r3, r4, r5, r6, r7, r8) := h
  clear h
  have H' := Aside0.mk H
  clear H
  go_enter Try.func14, Try.ntmps14
  go_wp2_with (first | ((with_reducible refine gate_dst (N := 2) rfl ?_); refine box_event ?hg (N := 2) ?hd (cs := #[.int .i64 0, .int .i64 0, .int .i64 0, .int .i64 0, .int .i64 0, .int .i64 0, .int .i64 0]) (t := 23) ?hr ?_; (case hd => rfl); (case hg => rfl); (case hr => first | (go_simp; done) | (go_simp; rfl)); intro gb243 hg w2 hbox hb; have n0_ := Aside0.mk (below_step (by repeat (first | (with_reducible first | exact HB.out | apply below_alloc | apply pw_below_drewN | apply below_drew1) | exact HB.out)) hb); have n1_ := Aside0.mk (hbox); have n2_ := Aside0.mk ((by rw [hg]; exact (below_size (by repeat (first | (with_reducible first | exact HB.out | apply below_alloc | apply pw_below_drewN | apply below_drew1) | exact HB.out))) : w.heap.size ≤ gb243)); have n3_ := Aside0.mk ((by rw [hg]; exact (below_size (by repeat (first | (with_reducible first | exact HB.out | apply below_alloc | apply pw_below_drewN | apply below_drew1) | exact HB.out))) : w.heap.size ≤ gb243)); clear HB; have HB := n0_; have BK243 := n1_; have GW243 := n2_; have GE243 := n3_; clear n0_ n1_ n2_ n3_; clear hb hbox hg) | ((with_reducible refine gate_dst (N := 4) rfl ?_); refine box_event ?hg (N := 4) ?hd (cs := #[.int .i64 0, .int .i64 0, .int .i64 0, .int .i64 0, .int .i64 0, .int .i64 0, .int .i64 0]) (t := 23) ?hr ?_; (case hd => rfl); (case hg => rfl); (case hr => first | (go_simp; done) | (go_simp; rfl)); intro gb244 hg w3 hbox hb; have n0_ := Aside0.mk (blk_below (g := gb243) (o := .cells #[.int .i64 0, .int .i64 0, .int .i64 0, .int .i64 0, .int .i64 0, .int .i64 0, .int .i64 0] 23 (0, 0)) (by (with_reducible repeat (first | refine blk_drewN ?_ _ | refine blk_drew ?_ | refine blk_alloc ?_ _)); exact BK243.out) hb); have n1_ := Aside0.mk (below_step (by repeat (first | (with_reducible first | exact HB.out | apply below_alloc | apply pw_below_drewN | apply below_drew1 | refine below_set ?_ GE243.out) | exact HB.out)) hb); have n2_ := Aside0.mk (hbox); have n3_ := Aside0.mk ((by rw [hg]; exact (below_size (by repeat (first | (with_reducible first | exact HB.out | apply below_alloc | apply pw_below_drewN | apply below_drew1 | refine below_set ?_ GE243.out) | exact HB.out))) : w.heap.size ≤ gb244)); have n4_ := Aside0.mk ((by rw [hg]; exact (below_size (by repeat (first | (with_reducible first | exact HB.out | apply below_alloc | apply pw_below_drewN | apply below_drew1 | refine below_set ?_ GE243.out) | exact HB.out))) : w.heap.size ≤ gb244)); have n5_ := Aside0.mk ((by rw [hg]; exact Nat.ne_of_lt (blk_lt (g := gb243) (o := .cells #[.int .i64 0, .int .i64 0, .int .i64 0, .int .i64 0, .int .i64 0, .int .i64 0, .int .i64 0] 23 (0, 0)) (by (with_reducible repeat (first | refine blk_drewN ?_ _ | refine blk_drew ?_ | refine blk_alloc ?_ _)); exact BK243.out)) : gb243 ≠ gb244)); have n6_ := Aside0.mk ((by rw [hg]; exact Nat.ne_of_gt (blk_lt (g := gb243) (o := .cells #[.int .i64 0, .int .i64 0, .int .i64 0, .int .i64 0, .int .i64 0, .int .i64 0, .int .i64 0] 23 (0, 0)) (by (with_reducible repeat (first | refine blk_drewN ?_ _ | refine blk_drew ?_ | refine blk_alloc ?_ _)); exact BK243.out)) : gb244 ≠ gb243)); clear BK243; clear HB; have BK243 := n0_; have HB := n1_; have BK244 := n2_; have GW244 := n3_; have GE244 := n4_; have NB243_244 := n5_; have NB244_243 := n6_; clear n0_ n1_ n2_ n3_ n4_ n5_ n6_; clear hb hbox hg))
  go_loopg [5, 10] k (fun kq v5 v10 w' => ∃ (x5_1 : Bool) (x10_1 : Int) (x245000_1 : Int) (x245001_1 : Int) (x245002_1 : Int) (x245003_1 : Int) (x245004_1 : Int) (x245005_1 : Int) (x245006_1 : Int), v5 = .bool x5_1 ∧ v10 = .int .i64 x10_1 ∧ Aside0 (date_Last.l0 kq x5_1 l0 (l0.length : Int) x10_1 x245000_1 x245001_1 x245002_1 x245003_1 x245004_1 x245005_1 x245006_1 = some (r1, r2, r3, r4, r5, r6, r7, r8)) ∧ Aside0 (kq ≤ k) ∧ Aside0 (w'.heap[gb243]? = some (.cells #[.int .i64 0, .int .i64 0, .int .i64 0, .int .i64 0, .int .i64 0, .int .i64 0, .int .i64 0] 23 (0, 0))) ∧ Aside0 (w'.heap[gb244]? = some (.cells #[.int .i64 x245000_1, .int .i64 x245001_1, .int .i64 x245002_1, .int .i64 x245003_1, .int .i64 x245004_1, .int .i64 x245005_1, .int .i64 x245006_1] 23 (0, 0))) ∧ Aside0 (Below w.heap.size w w'))
  case atStart => exact ⟨(false), (0), (0), (0), (0), (0), (0), (0), (0), (by first | with_reducible rfl | (simp only [ByteArray.size_append, ByteArray.size_extract, Nat.min_self, Nat.sub_zero, Go.Proofs.Ytooknjpdflokkaa.My.lit_size, List.size_toArray, List.length_cons, List.length_nil, Nat.reduceAdd, Nat.zero_add]; done) | rfl | (simp; done) | (simp [*]; done)), (by first | with_reducible rfl | (simp only [ByteArray.size_append, ByteArray.size_extract, Nat.min_self, Nat.sub_zero, Go.Proofs.Ytooknjpdflokkaa.My.lit_size, List.size_toArray, List.length_cons, List.length_nil, Nat.reduceAdd, Nat.zero_add]; done) | rfl | (simp; done) | (simp [*]; done)), H', ⟨Nat.le_refl _⟩, ⟨by (with_reducible repeat (first | refine blk_drewN ?_ _ | refine blk_drew ?_ | refine blk_alloc ?_ _)); exact BK243.out⟩, ⟨by (with_reducible repeat (first | refine blk_drewN ?_ _ | refine blk_drew ?_ | refine blk_alloc ?_ _)); exact BK244.out⟩, ⟨by repeat (first | (with_reducible first | exact HB.out | apply below_alloc | apply pw_below_drewN | apply below_drew1 | refine below_set ?_ GE243.out | refine below_set ?_ GE244.out) | exact HB.out)⟩⟩
  case round =>
    clear H'
    try clear c1
    try clear p2
    obtain ⟨x5_1, x10_1, x245000_1, x245001_1, x245002_1, x245003_1, x245004_1, x245005_1, x245006_1, rfl, rfl, HA, HK1, BK243, BK244, HB⟩ := hrel
    cases gk with
    | zero => exact absurd HA.out (by simp [date_Last.l0])
    | succ k1 =>
      have H := HA.out
      clear HA
      simp only [date_Last.l0] at H
      by_cases c4 : x10_1 < (l0.length : Int)
      · rw [if_pos c4] at H
        have c4b0 : decide (x10_1 < (l0.length : Int)) = true := decide_eq_true c4
        clear c4
        by_cases c5 : 0 ≤ x10_1
        · rw [if_pos c5] at H
          have c5b0 : decide (0 ≤ x10_1) = true := decide_eq_true c5
          clear c5
          by_cases c6 : x10_1 < (l0.length : Int)
          · rw [if_pos c6] at H
            have c6b0 : decide (x10_1 < (l0.length : Int)) = true := decide_eq_true c6
            clear c6
            replace H := Option.bind_eq_some_iff.mp H
            obtain ⟨t247, A70, H⟩ := H
            replace H : (if t247 = true then (if x5_1 = true then ((date_Unix.f k1 ((rd_T23 l0 x10_1).f0) ((rd_T23 l0 x10_1).f1) ((rd_T23 l0 x10_1).f2) ((rd_T23 l0 x10_1).f3) ((rd_T23 l0 x10_1).f4) ((rd_T23 l0 x10_1).f5) ((rd_T23 l0 x10_1).f6)).bind fun t248 => ((date_Unix.f k1 x245000_1 x245001_1 x245002_1 x245003_1 x245004_1 x245005_1 x245006_1).bind fun t249 => (if t248 > t249 then (date_Last.l0 k1 true l0 (l0.length : Int) (wrap64 (x10_1 + 1)) ((rd_T23 l0 x10_1).f0) ((rd_T23 l0 x10_1).f1) ((rd_T23 l0 x10_1).f2) ((rd_T23 l0 x10_1).f3) ((rd_T23 l0 x10_1).f4) ((rd_T23 l0 x10_1).f5) ((rd_T23 l0 x10_1).f6)) else (date_Last.l0 k1 x5_1 l0 (l0.length : Int) (wrap64 (x10_1 + 1)) x245000_1 x245001_1 x245002_1 x245003_1 x245004_1 x245005_1 x245006_1)))) else (date_Last.l0 k1 true l0 (l0.length : Int) (wrap64 (x10_1 + 1)) ((rd_T23 l0 x10_1).f0) ((rd_T23 l0 x10_1).f1) ((rd_T23 l0 x10_1).f2) ((rd_T23 l0 x10_1).f3) ((rd_T23 l0 x10_1).f4) ((rd_T23 l0 x10_1).f5) ((rd_T23 l0 x10_1).f6))) else (date_Last.l0 k1 x5_1 l0 (l0.length : Int) (wrap64 (x10_1 + 1)) x245000_1 x245001_1 x245002_1 x245003_1 x245004_1 x245005_1 x245006_1)) = some (r1, r2, r3, r4, r5, r6, r7, r8) := H
            have A7 := Aside0.mk A70
            clear A70
            by_cases c8 : t247 = true
            · subst c8
              have H1 : (if x5_1 = true then ((date_Unix.f k1 ((rd_T23 l0 x10_1).f0) ((rd_T23 l0 x10_1).f1) ((rd_T23 l0 x10_1).f2) ((rd_T23 l0 x10_1).f3) ((rd_T23 l0 x10_1).f4) ((rd_T23 l0 x10_1).f5) ((rd_T23 l0 x10_1).f6)).bind fun t248 => ((date_Unix.f k1 x245000_1 x245001_1 x245002_1 x245003_1 x245004_1 x245005_1 x245006_1).bind fun t249 => (if t248 > t249 then (date_Last.l0 k1 true l0 (l0.length : Int) (wrap64 (x10_1 + 1)) ((rd_T23 l0 x10_1).f0) ((rd_T23 l0 x10_1).f1) ((rd_T23 l0 x10_1).f2) ((rd_T23 l0 x10_1).f3) ((rd_T23 l0 x10_1).f4) ((rd_T23 l0 x10_1).f5) ((rd_T23 l0 x10_1).f6)) else (date_Last.l0 k1 x5_1 l0 (l0.length : Int) (wrap64 (x10_1 + 1)) x245000_1 x245001_1 x245002_1 x245003_1 x245004_1 x245005_1 x245006_1)))) else (date_Last.l0 k1 true l0 (l0.length : Int) (wrap64 (x10_1 + 1)) ((rd_T23 l0 x10_1).f0) ((rd_T23 l0 x10_1).f1) ((rd_T23 l0 x10_1).f2) ((rd_T23 l0 x10_1).f3) ((rd_T23 l0 x10_1).f4) ((rd_T23 l0 x10_1).f5) ((rd_T23 l0 x10_1).f6))) = some (r1, r2, r3, r4, r5, r6, r7, r8) := by rw [if_pos rfl] at H; exact H
              clear H
              have H := H1
              clear H1
              by_cases c9 : x5_1 = true
              · subst c9
                have H1 : ((date_Unix.f k1 ((rd_T23 l0 x10_1).f0) ((rd_T23 l0 x10_1).f1) ((rd_T23 l0 x10_1).f2) ((rd_T23 l0 x10_1).f3) ((rd_T23 l0 x10_1).f4) ((rd_T23 l0 x10_1).f5) ((rd_T23 l0 x10_1).f6)).bind fun t248 => ((date_Unix.f k1 x245000_1 x245001_1 x245002_1 x245003_1 x245004_1 x245005_1 x245006_1).bind fun t249 => (if t248 > t249 then (date_Last.l0 k1 true l0 (l0.length : Int) (wrap64 (x10_1 + 1)) ((rd_T23 l0 x10_1).f0) ((rd_T23 l0 x10_1).f1) ((rd_T23 l0 x10_1).f2) ((rd_T23 l0 x10_1).f3) ((rd_T23 l0 x10_1).f4) ((rd_T23 l0 x10_1).f5) ((rd_T23 l0 x10_1).f6)) else (date_Last.l0 k1 true l0 (l0.length : Int) (wrap64 (x10_1 + 1)) x245000_1 x245001_1 x245002_1 x245003_1 x245004_1 x245005_1 x245006_1)))) = some (r1, r2, r3, r4, r5, r6, r7, r8) := by rw [if_pos rfl] at H; exact H
                clear H
                have H := H1
                clear H1
                replace H := Option.bind_eq_some_iff.mp H
                obtain ⟨t248, A100, H⟩ := H
                replace H : ((date_Unix.f k1 x245000_1 x245001_1 x245002_1 x245003_1 x245004_1 x245005_1 x245006_1).bind fun t249 => (if t248 > t249 then (date_Last.l0 k1 true l0 (l0.length : Int) (wrap64 (x10_1 + 1)) ((rd_T23 l0 x10_1).f0) ((rd_T23 l0 x10_1).f1) ((rd_T23 l0 x10_1).f2) ((rd_T23 l0 x10_1).f3) ((rd_T23 l0 x10_1).f4) ((rd_T23 l0 x10_1).f5) ((rd_T23 l0 x10_1).f6)) else (date_Last.l0 k1 true l0 (l0.length : Int) (wrap64 (x10_1 + 1)) x245000_1 x245001_1 x245002_1 x245003_1 x245004_1 x245005_1 x245006_1))) = some (r1, r2, r3, r4, r5, r6, r7, r8) := H
                have A10 := Aside0.mk A100
                clear A100
                replace H := Option.bind_eq_some_iff.mp H
                obtain ⟨t249, A110, H⟩ := H
                replace H : (if t248 > t249 then (date_Last.l0 k1 true l0 (l0.length : Int) (wrap64 (x10_1 + 1)) ((rd_T23 l0 x10_1).f0) ((rd_T23 l0 x10_1).f1) ((rd_T23 l0 x10_1).f2) ((rd_T23 l0 x10_1).f3) ((rd_T23 l0 x10_1).f4) ((rd_T23 l0 x10_1).f5) ((rd_T23 l0 x10_1).f6)) else (date_Last.l0 k1 true l0 (l0.length : Int) (wrap64 (x10_1 + 1)) x245000_1 x245001_1 x245002_1 x245003_1 x245004_1 x245005_1 x245006_1)) = some (r1, r2, r3, r4, r5, r6, r7, r8) := H
                have A11 := Aside0.mk A110
                clear A110
                by_cases c12 : t248 > t249
                · rw [if_pos c12] at H
                  have c12b0 : decide (t249 < t248) = true := decide_eq_true c12
                  clear c12
                  have H' := Aside0.mk H
                  clear H
                  have p245 : 0 ≤ (x10_1 : Int) := of_decide_eq_true (by first | (with_reducible assumption) | assumption)
                  have q245 : x10_1 < (l0.length : Int) := of_decide_eq_true (by first | (with_reducible assumption) | assumption)
                  obtain ⟨ad245, e245, hx245_0, hx245_1, hx245_2, hx245_3, hx245_4, hx245_5, hx245_6⟩ := at_T23 HR0.out x10_1 p245 q245
                  cases e245
                  replace hx245_0 := (HB.out.cell (World.block_lt_of_cell? w _ hx245_0)).trans hx245_0
                  replace hx245_1 := (HB.out.cell (World.block_lt_of_cell? w _ hx245_1)).trans hx245_1
                  replace hx245_2 := (HB.out.cell (World.block_lt_of_cell? w _ hx245_2)).trans hx245_2
                  replace hx245_3 := (HB.out.cell (World.block_lt_of_cell? w _ hx245_3)).trans hx245_3
                  replace hx245_4 := (HB.out.cell (World.block_lt_of_cell? w _ hx245_4)).trans hx245_4
                  replace hx245_5 := (HB.out.cell (World.block_lt_of_cell? w _ hx245_5)).trans hx245_5
                  replace hx245_6 := (HB.out.cell (World.block_lt_of_cell? w _ hx245_6)).trans hx245_6
                  replace p245 := eq_true p245
                  replace q245 := eq_true q245
                  try go_wp2_with (first | ((with_reducible refine gate_dst (N := 7) rfl ?_); refine box_event ?hg (N := 7) ?hd (cs := #[.int .i64 0, .int .i64 0, .int .i64 0, .int .i64 0, .int .i64 0, .int .i64 0, .int .i64 0]) (t := 23) ?hr ?_; (case hd => rfl); (case hg => rfl); (case hr => first | (go_simp; done) | (go_simp; rfl)); intro gb246 hg w13 hbox hb; have n0_ := Aside0.mk (blk_below (g := gb243) (o := .cells #[.int .i64 0, .int .i64 0, .int .i64 0, .int .i64 0, .int .i64 0, .int .i64 0, .int .i64 0] 23 (0, 0)) (by (with_reducible repeat (first | refine blk_drewN ?_ _ | refine blk_drew ?_ | refine blk_alloc ?_ _)); exact BK243.out) hb); have n1_ := Aside0.mk (blk_below (g := gb244) (o := .cells #[.int .i64 x245000_1, .int .i64 x245001_1, .int .i64 x245002_1, .int .i64 x245003_1, .int .i64 x245004_1, .int .i64 x245005_1, .int .i64 x245006_1] 23 (0, 0)) (by (with_reducible repeat (first | refine blk_drewN ?_ _ | refine blk_drew ?_ | refine blk_alloc ?_ _)); exact BK244.out) hb); have n2_ := Aside0.mk (below_step (by repeat (first | (with_reducible first | exact HB.out | apply below_alloc | apply pw_below_drewN | apply below_drew1 | refine below_set ?_ GE243.out | refine below_set ?_ GE244.out) | exact HB.out)) hb); have n3_ := Aside0.mk (hbox); have n4_ := Aside0.mk ((by rw [hg]; exact (below_size (by repeat (first | (with_reducible first | exact HB.out | apply below_alloc | apply pw_below_drewN | apply below_drew1 | refine below_set ?_ GE243.out | refine below_set ?_ GE244.out) | exact HB.out))) : w.heap.size ≤ gb246)); have n5_ := Aside0.mk ((by rw [hg]; exact (below_size (by repeat (first | (with_reducible first | exact HB.out | apply below_alloc | apply pw_below_drewN | apply below_drew1 | refine below_set ?_ GE243.out | refine below_set ?_ GE244.out) | exact HB.out))) : w.heap.size ≤ gb246)); have n6_ := Aside0.mk ((by rw [hg]; exact Nat.ne_of_lt (blk_lt (g := gb243) (o := .cells #[.int .i64 0, .int .i64 0, .int .i64 0, .int .i64 0, .int .i64 0, .int .i64 0, .int .i64 0] 23 (0, 0)) (by (with_reducible repeat (first | refine blk_drewN ?_ _ | refine blk_drew ?_ | refine blk_alloc ?_ _)); exact BK243.out)) : gb243 ≠ gb246)); have n7_ := Aside0.mk ((by rw [hg]; exact Nat.ne_of_gt (blk_lt (g := gb243) (o := .cells #[.int .i64 0, .int .i64 0, .int .i64 0, .int .i64 0, .int .i64 0, .int .i64 0, .int .i64 0] 23 (0, 0)) (by (with_reducible repeat (first | refine blk_drewN ?_ _ | refine blk_drew ?_ | refine blk_alloc ?_ _)); exact BK243.out)) : gb246 ≠ gb243)); have n8_ := Aside0.mk ((by rw [hg]; exact Nat.ne_of_lt (blk_lt (g := gb244) (o := .cells #[.int .i64 x245000_1, .int .i64 x245001_1, .int .i64 x245002_1, .int .i64 x245003_1, .int .i64 x245004_1, .int .i64 x245005_1, .int .i64 x245006_1] 23 (0, 0)) (by (with_reducible repeat (first | refine blk_drewN ?_ _ | refine blk_drew ?_ | refine blk_alloc ?_ _)); exact BK244.out)) : gb244 ≠ gb246)); have n9_ := Aside0.mk ((by rw [hg]; exact Nat.ne_of_gt (blk_lt (g := gb244) (o := .cells #[.int .i64 x245000_1, .int .i64 x245001_1, .int .i64 x245002_1, .int .i64 x245003_1, .int .i64 x245004_1, .int .i64 x245005_1, .int .i64 x245006_1] 23 (0, 0)) (by (with_reducible repeat (first | refine blk_drewN ?_ _ | refine blk_drew ?_ | refine blk_alloc ?_ _)); exact BK244.out)) : gb246 ≠ gb244)); clear BK243; clear BK244; clear HB; have BK243 := n0_; have BK244 := n1_; have HB := n2_; have BK246 := n3_; have GW246 := n4_; have GE246 := n5_; have NB243_246 := n6_; have NB246_243 := n7_; have NB244_246 := n8_; have NB246_244 := n9_; clear n0_ n1_ n2_ n3_ n4_ n5_ n6_ n7_ n8_ n9_; clear hb hbox hg; have hnb14 := NB246_243.out; have hnc14 := NB243_246.out; have hnb15 := NB246_244.out; have hnc15 := NB244_246.out; have hcz16_0 : w13.cell? ⟨gb246, 0, none⟩ = some (.int .i64 0) := (blk_cell BK246.out 0).trans rfl; have hcz16_1 : w13.cell? ⟨gb246, 1, none⟩ = some (.int .i64 0) := (blk_cell BK246.out 1).trans rfl; have hcz16_2 : w13.cell? ⟨gb246, 2, none⟩ = some (.int .i64 0) := (blk_cell BK246.out 2).trans rfl; have hcz16_3 : w13.cell? ⟨gb246, 3, none⟩ = some (.int .i64 0) := (blk_cell BK246.out 3).trans rfl; have hcz16_4 : w13.cell? ⟨gb246, 4, none⟩ = some (.int .i64 0) := (blk_cell BK246.out 4).trans rfl; have hcz16_5 : w13.cell? ⟨gb246, 5, none⟩ = some (.int .i64 0) := (blk_cell BK246.out 5).trans rfl; have hcz16_6 : w13.cell? ⟨gb246, 6, none⟩ = some (.int .i64 0) := (blk_cell BK246.out 6).trans rfl; have hfz16_0 := blk_frozen BK246.out 0; have hfz16_1 := blk_frozen BK246.out 1; have hfz16_2 := blk_frozen BK246.out 2; have hfz16_3 := blk_frozen BK246.out 3; have hfz16_4 := blk_frozen BK246.out 4; have hfz16_5 := blk_frozen BK246.out 5; have hfz16_6 := blk_frozen BK246.out 6))
                  have n0_ : Aside0 ((((((((w13.setCell ⟨gb246, 0, none⟩ (.int .i64 ((rd_T23 l0 x10_1).f0))).setCell ⟨gb246, 1, none⟩ (.int .i64 ((rd_T23 l0 x10_1).f1))).setCell ⟨gb246, 2, none⟩ (.int .i64 ((rd_T23 l0 x10_1).f2))).setCell ⟨gb246, 3, none⟩ (.int .i64 ((rd_T23 l0 x10_1).f3))).setCell ⟨gb246, 4, none⟩ (.int .i64 ((rd_T23 l0 x10_1).f4))).setCell ⟨gb246, 5, none⟩ (.int .i64 ((rd_T23 l0 x10_1).f5))).setCell ⟨gb246, 6, none⟩ (.int .i64 ((rd_T23 l0 x10_1).f6))).heap[gb243]? = some (.cells #[.int .i64 0, .int .i64 0, .int .i64 0, .int .i64 0, .int .i64 0, .int .i64 0, .int .i64 0] 23 (0, 0))) := ⟨by (with_reducible repeat (first | refine blk_drewN ?_ _ | refine blk_drew ?_ | refine blk_alloc ?_ _)); refine blk_far ?_ NB243_246.out _; (with_reducible repeat (first | refine blk_drewN ?_ _ | refine blk_drew ?_ | refine blk_alloc ?_ _)); refine blk_far ?_ NB243_246.out _; (with_reducible repeat (first | refine blk_drewN ?_ _ | refine blk_drew ?_ | refine blk_alloc ?_ _)); refine blk_far ?_ NB243_246.out _; (with_reducible repeat (first | refine blk_drewN ?_ _ | refine blk_drew ?_ | refine blk_alloc ?_ _)); refine blk_far ?_ NB243_246.out _; (with_reducible repeat (first | refine blk_drewN ?_ _ | refine blk_drew ?_ | refine blk_alloc ?_ _)); refine blk_far ?_ NB243_246.out _; (with_reducible repeat (first | refine blk_drewN ?_ _ | refine blk_drew ?_ | refine blk_alloc ?_ _)); refine blk_far ?_ NB243_246.out _; (with_reducible repeat (first | refine blk_drewN ?_ _ | refine blk_drew ?_ | refine blk_alloc ?_ _)); refine blk_far ?_ NB243_246.out _; (with_reducible repeat (first | refine blk_drewN ?_ _ | refine blk_drew ?_ | refine blk_alloc ?_ _)); exact BK243.out⟩
                  have n1_ : Aside0 ((((((((w13.setCell ⟨gb246, 0, none⟩ (.int .i64 ((rd_T23 l0 x10_1).f0))).setCell ⟨gb246, 1, none⟩ (.int .i64 ((rd_T23 l0 x10_1).f1))).setCell ⟨gb246, 2, none⟩ (.int .i64 ((rd_T23 l0 x10_1).f2))).setCell ⟨gb246, 3, none⟩ (.int .i64 ((rd_T23 l0 x10_1).f3))).setCell ⟨gb246, 4, none⟩ (.int .i64 ((rd_T23 l0 x10_1).f4))).setCell ⟨gb246, 5, none⟩ (.int .i64 ((rd_T23 l0 x10_1).f5))).setCell ⟨gb246, 6, none⟩ (.int .i64 ((rd_T23 l0 x10_1).f6))).heap[gb244]? = some (.cells #[.int .i64 x245000_1, .int .i64 x245001_1, .int .i64 x245002_1, .int .i64 x245003_1, .int .i64 x245004_1, .int .i64 x245005_1, .int .i64 x245006_1] 23 (0, 0))) := ⟨by (with_reducible repeat (first | refine blk_drewN ?_ _ | refine blk_drew ?_ | refine blk_alloc ?_ _)); refine blk_far ?_ NB244_246.out _; (with_reducible repeat (first | refine blk_drewN ?_ _ | refine blk_drew ?_ | refine blk_alloc ?_ _)); refine blk_far ?_ NB244_246.out _; (with_reducible repeat (first | refine blk_drewN ?_ _ | refine blk_drew ?_ | refine blk_alloc ?_ _)); refine blk_far ?_ NB244_246.out _; (with_reducible repeat (first | refine blk_drewN ?_ _ | refine blk_drew ?_ | refine blk_alloc ?_ _)); refine blk_far ?_ NB244_246.out _; (with_reducible repeat (first | refine blk_drewN ?_ _ | refine blk_drew ?_ | refine blk_alloc ?_ _)); refine blk_far ?_ NB244_246.out _; (with_reducible repeat (first | refine blk_drewN ?_ _ | refine blk_drew ?_ | refine blk_alloc ?_ _)); refine blk_far ?_ NB244_246.out _; (with_reducible repeat (first | refine blk_drewN ?_ _ | refine blk_drew ?_ | refine blk_alloc ?_ _)); refine blk_far ?_ NB244_246.out _; (with_reducible repeat (first | refine blk_drewN ?_ _ | refine blk_drew ?_ | refine blk_alloc ?_ _)); exact BK244.out⟩
                  have n2_ : Aside0 ((((((((w13.setCell ⟨gb246, 0, none⟩ (.int .i64 ((rd_T23 l0 x10_1).f0))).setCell ⟨gb246, 1, none⟩ (.int .i64 ((rd_T23 l0 x10_1).f1))).setCell ⟨gb246, 2, none⟩ (.int .i64 ((rd_T23 l0 x10_1).f2))).setCell ⟨gb246, 3, none⟩ (.int .i64 ((rd_T23 l0 x10_1).f3))).setCell ⟨gb246, 4, none⟩ (.int .i64 ((rd_T23 l0 x10_1).f4))).setCell ⟨gb246, 5, none⟩ (.int .i64 ((rd_T23 l0 x10_1).f5))).setCell ⟨gb246, 6, none⟩ (.int .i64 ((rd_T23 l0 x10_1).f6))).heap[gb246]? = some (.cells #[.int .i64 ((rd_T23 l0 x10_1).f0), .int .i64 ((rd_T23 l0 x10_1).f1), .int .i64 ((rd_T23 l0 x10_1).f2), .int .i64 ((rd_T23 l0 x10_1).f3), .int .i64 ((rd_T23 l0 x10_1).f4), .int .i64 ((rd_T23 l0 x10_1).f5), .int .i64 ((rd_T23 l0 x10_1).f6)] 23 (0, 0))) := ⟨by (with_reducible repeat (first | refine blk_drewN ?_ _ | refine blk_drew ?_ | refine blk_alloc ?_ _)); refine blk_put (cs := #[.int .i64 ((rd_T23 l0 x10_1).f0), .int .i64 ((rd_T23 l0 x10_1).f1), .int .i64 ((rd_T23 l0 x10_1).f2), .int .i64 ((rd_T23 l0 x10_1).f3), .int .i64 ((rd_T23 l0 x10_1).f4), .int .i64 ((rd_T23 l0 x10_1).f5), .int .i64 0]) ?_ 6 _ rfl; (with_reducible repeat (first | refine blk_drewN ?_ _ | refine blk_drew ?_ | refine blk_alloc ?_ _)); refine blk_put (cs := #[.int .i64 ((rd_T23 l0 x10_1).f0), .int .i64 ((rd_T23 l0 x10_1).f1), .int .i64 ((rd_T23 l0 x10_1).f2), .int .i64 ((rd_T23 l0 x10_1).f3), .int .i64 ((rd_T23 l0 x10_1).f4), .int .i64 0, .int .i64 0]) ?_ 5 _ rfl; (with_reducible repeat (first | refine blk_drewN ?_ _ | refine blk_drew ?_ | refine blk_alloc ?_ _)); refine blk_put (cs := #[.int .i64 ((rd_T23 l0 x10_1).f0), .int .i64 ((rd_T23 l0 x10_1).f1), .int .i64 ((rd_T23 l0 x10_1).f2), .int .i64 ((rd_T23 l0 x10_1).f3), .int .i64 0, .int .i64 0, .int .i64 0]) ?_ 4 _ rfl; (with_reducible repeat (first | refine blk_drewN ?_ _ | refine blk_drew ?_ | refine blk_alloc ?_ _)); refine blk_put (cs := #[.int .i64 ((rd_T23 l0 x10_1).f0), .int .i64 ((rd_T23 l0 x10_1).f1), .int .i64 ((rd_T23 l0 x10_1).f2), .int .i64 0, .int .i64 0, .int .i64 0, .int .i64 0]) ?_ 3 _ rfl; (with_reducible repeat (first | refine blk_drewN ?_ _ | refine blk_drew ?_ | refine blk_alloc ?_ _)); refine blk_put (cs := #[.int .i64 ((rd_T23 l0 x10_1).f0), .int .i64 ((rd_T23 l0 x10_1).f1), .int .i64 0, .int .i64 0, .int .i64 0, .int .i64 0, .int .i64 0]) ?_ 2 _ rfl; (with_reducible repeat (first | refine blk_drewN ?_ _ | refine blk_drew ?_ | refine blk_alloc ?_ _)); refine blk_put (cs := #[.int .i64 ((rd_T23 l0 x10_1).f0), .int .i64 0, .int .i64 0, .int .i64 0, .int .i64 0, .int .i64 0, .int .i64 0]) ?_ 1 _ rfl; (with_reducible repeat (first | refine blk_drewN ?_ _ | refine blk_drew ?_ | refine blk_alloc ?_ _)); refine blk_put (cs := #[.int .i64 0, .int .i64 0, .int .i64 0, .int .i64 0, .int .i64 0, .int .i64 0, .int .i64 0]) ?_ 0 _ rfl; (with_reducible repeat (first | refine blk_drewN ?_ _ | refine blk_drew ?_ | refine blk_alloc ?_ _)); exact BK246.out⟩
                  have n3_ : Aside0 (Below w.heap.size w (((((((w13.setCell ⟨gb246, 0, none⟩ (.int .i64 ((rd_T23 l0 x10_1).f0))).setCell ⟨gb246, 1, none⟩ (.int .i64 ((rd_T23 l0 x10_1).f1))).setCell ⟨gb246, 2, none⟩ (.int .i64 ((rd_T23 l0 x10_1).f2))).setCell ⟨gb246, 3, none⟩ (.int .i64 ((rd_T23 l0 x10_1).f3))).setCell ⟨gb246, 4, none⟩ (.int .i64 ((rd_T23 l0 x10_1).f4))).setCell ⟨gb246, 5, none⟩ (.int .i64 ((rd_T23 l0 x10_1).f5))).setCell ⟨gb246, 6, none⟩ (.int .i64 ((rd_T23 l0 x10_1).f6)))) := ⟨by repeat (first | (with_reducible first | exact HB.out | apply below_alloc | apply pw_below_drewN | apply below_drew1 | refine below_set ?_ GE243.out | refine below_set ?_ GE244.out | refine below_set ?_ GE246.out) | exact HB.out)⟩
                  (try clear BK243)
                  (try clear BK244)
                  (try clear BK246)
                  (try clear HB)
                  generalize (((((((w13.setCell ⟨gb246, 0, none⟩ (.int .i64 ((rd_T23 l0 x10_1).f0))).setCell ⟨gb246, 1, none⟩ (.int .i64 ((rd_T23 l0 x10_1).f1))).setCell ⟨gb246, 2, none⟩ (.int .i64 ((rd_T23 l0 x10_1).f2))).setCell ⟨gb246, 3, none⟩ (.int .i64 ((rd_T23 l0 x10_1).f3))).setCell ⟨gb246, 4, none⟩ (.int .i64 ((rd_T23 l0 x10_1).f4))).setCell ⟨gb246, 5, none⟩ (.int .i64 ((rd_T23 l0 x10_1).f5))).setCell ⟨gb246, 6, none⟩ (.int .i64 ((rd_T23 l0 x10_1).f6))) = w17 at n0_ n1_ n2_ n3_ ⊢
                  have BK243 := n0_
                  have BK244 := n1_
                  have BK246 := n2_
                  have HB := n3_
                  clear n0_ n1_ n2_ n3_
                  have n0_ := Aside0.mk (blk_drew BK243.out)
                  have n1_ := Aside0.mk (blk_drew BK244.out)
                  have n2_ := Aside0.mk (blk_drew BK246.out)
                  have n3_ := Aside0.mk (below_drew1 HB.out)
                  clear BK243
                  clear BK244
                  clear BK246
                  clear HB
                  have BK243 := n0_
                  have BK244 := n1_
                  have BK246 := n2_
                  have HB := n3_
                  clear n0_ n1_ n2_ n3_
                  refine start_ (n := 13) (S := fun w' => w'.cell? ⟨gb246, 0, none⟩ = some (.int .i64 ((rd_T23 l0 x10_1).f0)) ∧ w'.cell? ⟨gb246, 1, none⟩ = some (.int .i64 ((rd_T23 l0 x10_1).f1)) ∧ w'.cell? ⟨gb246, 2, none⟩ = some (.int .i64 ((rd_T23 l0 x10_1).f2)) ∧ w'.cell? ⟨gb246, 3, none⟩ = some (.int .i64 ((rd_T23 l0 x10_1).f3)) ∧ w'.cell? ⟨gb246, 4, none⟩ = some (.int .i64 ((rd_T23 l0 x10_1).f4)) ∧ w'.cell? ⟨gb246, 5, none⟩ = some (.int .i64 ((rd_T23 l0 x10_1).f5)) ∧ w'.cell? ⟨gb246, 6, none⟩ = some (.int .i64 ((rd_T23 l0 x10_1).f6)) ∧ w'.cell? ⟨gb244, 0, none⟩ = some (.int .i64 x245000_1) ∧ w'.cell? ⟨gb244, 1, none⟩ = some (.int .i64 x245001_1) ∧ w'.cell? ⟨gb244, 2, none⟩ = some (.int .i64 x245002_1) ∧ w'.cell? ⟨gb244, 3, none⟩ = some (.int .i64 x245003_1) ∧ w'.cell? ⟨gb244, 4, none⟩ = some (.int .i64 x245004_1) ∧ w'.cell? ⟨gb244, 5, none⟩ = some (.int .i64 x245005_1) ∧ w'.cell? ⟨gb244, 6, none⟩ = some (.int .i64 x245006_1)) (ds := []) #[false, false, false, false, false, false, false, false, false, false, false, false, false] (by kernel_rfl) rfl rfl ⟨(blk_cell BK246.out 0).trans rfl, (blk_cell BK246.out 1).trans rfl, (blk_cell BK246.out 2).trans rfl, (blk_cell BK246.out 3).trans rfl, (blk_cell BK246.out 4).trans rfl, (blk_cell BK246.out 5).trans rfl, (blk_cell BK246.out 6).trans rfl, (blk_cell BK244.out 0).trans rfl, (blk_cell BK244.out 1).trans rfl, (blk_cell BK244.out 2).trans rfl, (blk_cell BK244.out 3).trans rfl, (blk_cell BK244.out 4).trans rfl, (blk_cell BK244.out 5).trans rfl, (blk_cell BK244.out 6).trans rfl⟩ (fun hHeld => ?_); refine with_tabW date_Last.tab6 date_Last.bits6 (fun HT_ HW_ => ?_)
                  generalize w17.drew = w18 at BK243 BK244 BK246 HB hHeld ⊢
                  refine take_ (i := 0) (N := some 14) (v := ?_) (a' := ?_) #[true, false, false, false, false, false, false, false, false, false, false, false, false] rfl rfl (take_ofW HT_.out HW_.out (by kernel_rfl)) (fun _ _ _ h => h) (Or.inl ⟨by rfl, ?_⟩) hHeld ?_ ?_
                  rotate_left
                  · rintro w' ⟨s0, s1, s2, s3, s4, s5, s6, s7, s8, s9, s10, s11, s12, s13⟩
                    go_simp
                    with_reducible rfl
                  rotate_left
                  · simp only [Act.put, List.setIfInBounds_toArray, List.set_cons_zero, List.set_cons_succ, i64_w, i32_w]
                    rfl
                  refine one_ (i := 1) (N := some 15) #[true, true, false, false, false, false, false, false, false, false, false, false, false] rfl rfl (one_of HT_.out (by kernel_rfl)) (by decide) (fun K hK => ?_)
                  refine goes_ Try.func16 (by kernel_rfl) rfl #[.agg #[.int .i64 ((rd_T23 l0 x10_1).f0), .int .i64 ((rd_T23 l0 x10_1).f1), .int .i64 ((rd_T23 l0 x10_1).f2), .int .i64 ((rd_T23 l0 x10_1).f3), .int .i64 ((rd_T23 l0 x10_1).f4), .int .i64 ((rd_T23 l0 x10_1).f5), .int .i64 ((rd_T23 l0 x10_1).f6)]] (by rfl) rfl rfl (by (try simp only [List.map_toArray, List.map_cons, List.map_nil]); first | done | rfl | (simp only [List.length_drop, List.length_take]; rfl)) ?_
                  with_reducible refine (date_Right.calls k1 ((rd_T23 l0 x10_1).f0) ((rd_T23 l0 x10_1).f1) ((rd_T23 l0 x10_1).f2) ((rd_T23 l0 x10_1).f3) ((rd_T23 l0 x10_1).f4) ((rd_T23 l0 x10_1).f5) ((rd_T23 l0 x10_1).f6) true _ A7.out).mono ?_
                  rintro e w19 ⟨rfl, hb⟩
                  refine ⟨_, rfl, ?_⟩
                  have n0_ := Aside0.mk (blk_below (g := gb243) (o := .cells #[.int .i64 0, .int .i64 0, .int .i64 0, .int .i64 0, .int .i64 0, .int .i64 0, .int .i64 0] 23 (0, 0)) (by (with_reducible repeat (first | refine blk_drewN ?_ _ | refine blk_drew ?_ | refine blk_alloc ?_ _)); exact BK243.out) hb)
                  have n1_ := Aside0.mk (blk_below (g := gb244) (o := .cells #[.int .i64 x245000_1, .int .i64 x245001_1, .int .i64 x245002_1, .int .i64 x245003_1, .int .i64 x245004_1, .int .i64 x245005_1, .int .i64 x245006_1] 23 (0, 0)) (by (with_reducible repeat (first | refine blk_drewN ?_ _ | refine blk_drew ?_ | refine blk_alloc ?_ _)); exact BK244.out) hb)
                  have n2_ := Aside0.mk (blk_below (g := gb246) (o := .cells #[.int .i64 ((rd_T23 l0 x10_1).f0), .int .i64 ((rd_T23 l0 x10_1).f1), .int .i64 ((rd_T23 l0 x10_1).f2), .int .i64 ((rd_T23 l0 x10_1).f3), .int .i64 ((rd_T23 l0 x10_1).f4), .int .i64 ((rd_T23 l0 x10_1).f5), .int .i64 ((rd_T23 l0 x10_1).f6)] 23 (0, 0)) (by (with_reducible repeat (first | refine blk_drewN ?_ _ | refine blk_drew ?_ | refine blk_alloc ?_ _)); exact BK246.out) hb)
                  have n3_ := Aside0.mk (below_step (by repeat (first | (with_reducible first | exact HB.out | apply below_alloc | apply pw_below_drewN | apply below_drew1 | refine below_set ?_ GE243.out | refine below_set ?_ GE244.out | refine below_set ?_ GE246.out) | exact HB.out)) hb)
                  clear BK243
                  clear BK244
                  clear BK246
                  clear HB
                  have BK243 := n0_
                  have BK244 := n1_
                  have BK246 := n2_
                  have HB := n3_
                  clear n0_ n1_ n2_ n3_
                  (try clear hb)
                  (try clear hb2)
                  (try clear hk)
                  (try clear hi)
                  refine hK.out _ _ ⟨(blk_cell BK246.out 0).trans rfl, (blk_cell BK246.out 1).trans rfl, (blk_cell BK246.out 2).trans rfl, (blk_cell BK246.out 3).trans rfl, (blk_cell BK246.out 4).trans rfl, (blk_cell BK246.out 5).trans rfl, (blk_cell BK246.out 6).trans rfl, (blk_cell BK244.out 0).trans rfl, (blk_cell BK244.out 1).trans rfl, (blk_cell BK244.out 2).trans rfl, (blk_cell BK244.out 3).trans rfl, (blk_cell BK244.out 4).trans rfl, (blk_cell BK244.out 5).trans rfl, (blk_cell BK244.out 6).trans rfl⟩ (fun hHeld => ?_)
                  clear hK K
                  refine norm_ (a' := ?_) ?_ ?_
                  rotate_left
                  · show Act.put _ (some 15) _ = _
                    simp only [Act.put, List.setIfInBounds_toArray, List.set_cons_zero, List.set_cons_succ, i64_w, i32_w]
                    rfl
                  refine pure_ (i := 2) (N := some 16) (v := ?_) (a' := ?_) #[true, true, true, false, false, false, false, false, false, false, false, false, false] rfl rfl (any_of HT_.out (by kernel_rfl)) (fun _ _ _ h => h) (Or.inl ⟨by rfl, ?_⟩) ?_ ?_
                  rotate_left
                  · intro w'
                    go_simp
                    with_reducible rfl
                  rotate_left
                  · simp only [Act.put, List.setIfInBounds_toArray, List.set_cons_zero, List.set_cons_succ, i64_w, i32_w]
                    rfl
                  refine pure_ (i := 3) (N := some 17) (v := ?_) (a' := ?_) #[true, true, true, true, false, false, false, false, false, false, false, false, false] rfl rfl (any_of HT_.out (by kernel_rfl)) (fun _ _ _ h => h) (Or.inl ⟨by rfl, ?_⟩) ?_ ?_
                  rotate_left
                  · intro w'
                    go_simp
                    with_reducible rfl
                  rotate_left
                  · simp only [Act.put, List.setIfInBounds_toArray, List.set_cons_zero, List.set_cons_succ, i64_w, i32_w]
                    rfl
                  refine pure_ (i := 4) (N := some 18) (v := ?_) (a' := ?_) #[true, true, true, true, true, false, false, false, false, false, false, false, false] rfl rfl (any_of HT_.out (by kernel_rfl)) (fun _ _ _ h => h) (Or.inl ⟨by rfl, ?_⟩) ?_ ?_
                  rotate_left
                  · intro w'
                    go_simp
                    with_reducible rfl
                  rotate_left
                  · simp only [Act.put, List.setIfInBounds_toArray, List.set_cons_zero, List.set_cons_succ, i64_w, i32_w]
                    rfl
                  refine pure_ (i := 5) (N := some 19) (v := ?_) (a' := ?_) #[true, true, true, true, true, true, false, false, false, false, false, false, false] rfl rfl (any_of HT_.out (by kernel_rfl)) (fun _ _ _ h => h) (Or.inl ⟨by rfl, ?_⟩) ?_ ?_
                  rotate_left
                  · intro w'
                    go_simp
                    with_reducible rfl
                  rotate_left
                  · simp only [Act.put, List.setIfInBounds_toArray, List.set_cons_zero, List.set_cons_succ, i64_w, i32_w]
                    rfl
                  refine take_ (i := 6) (N := some 20) (v := ?_) (a' := ?_) #[true, true, true, true, true, true, true, false, false, false, false, false, false] rfl rfl (take_ofW HT_.out HW_.out (by kernel_rfl)) (fun _ _ _ h => h) (Or.inl ⟨by rfl, ?_⟩) hHeld ?_ ?_
                  rotate_left
                  · rintro w' ⟨s0, s1, s2, s3, s4, s5, s6, s7, s8, s9, s10, s11, s12, s13⟩
                    go_simp
                    with_reducible rfl
                  rotate_left
                  · simp only [Act.put, List.setIfInBounds_toArray, List.set_cons_zero, List.set_cons_succ, i64_w, i32_w]
                    rfl
                  refine take_ (i := 8) (N := some 22) (v := ?_) (a' := ?_) #[true, true, true, true, true, true, true, false, true, false, false, false, false] rfl rfl (take_ofW HT_.out HW_.out (by kernel_rfl)) (fun _ _ _ h => h) (Or.inl ⟨by rfl, ?_⟩) hHeld ?_ ?_
                  rotate_left
                  · rintro w' ⟨s0, s1, s2, s3, s4, s5, s6, s7, s8, s9, s10, s11, s12, s13⟩
                    go_simp
                    with_reducible rfl
                  rotate_left
                  · simp only [Act.put, List.setIfInBounds_toArray, List.set_cons_zero, List.set_cons_succ, i64_w, i32_w]
                    rfl
                  refine one_ (i := 7) (N := some 21) #[true, true, true, true, true, true, true, true, true, false, false, false, false] rfl rfl (one_of HT_.out (by kernel_rfl)) (by decide) (fun K hK => ?_)
                  refine goes_ Try.func17 (by kernel_rfl) rfl #[.agg #[.int .i64 ((rd_T23 l0 x10_1).f0), .int .i64 ((rd_T23 l0 x10_1).f1), .int .i64 ((rd_T23 l0 x10_1).f2), .int .i64 ((rd_T23 l0 x10_1).f3), .int .i64 ((rd_T23 l0 x10_1).f4), .int .i64 ((rd_T23 l0 x10_1).f5), .int .i64 ((rd_T23 l0 x10_1).f6)]] (by rfl) rfl rfl (by (try simp only [List.map_toArray, List.map_cons, List.map_nil]); first | done | rfl | (simp only [List.length_drop, List.length_take]; rfl)) ?_
                  with_reducible refine (date_Unix.calls k1 ((rd_T23 l0 x10_1).f0) ((rd_T23 l0 x10_1).f1) ((rd_T23 l0 x10_1).f2) ((rd_T23 l0 x10_1).f3) ((rd_T23 l0 x10_1).f4) ((rd_T23 l0 x10_1).f5) ((rd_T23 l0 x10_1).f6) t248 _ A10.out).mono ?_
                  rintro e w20 ⟨rfl, hb⟩
                  refine ⟨_, rfl, ?_⟩
                  have n0_ := Aside0.mk (blk_below (g := gb243) (o := .cells #[.int .i64 0, .int .i64 0, .int .i64 0, .int .i64 0, .int .i64 0, .int .i64 0, .int .i64 0] 23 (0, 0)) (by (with_reducible repeat (first | refine blk_drewN ?_ _ | refine blk_drew ?_ | refine blk_alloc ?_ _)); exact BK243.out) hb)
                  have n1_ := Aside0.mk (blk_below (g := gb244) (o := .cells #[.int .i64 x245000_1, .int .i64 x245001_1, .int .i64 x245002_1, .int .i64 x245003_1, .int .i64 x245004_1, .int .i64 x245005_1, .int .i64 x245006_1] 23 (0, 0)) (by (with_reducible repeat (first | refine blk_drewN ?_ _ | refine blk_drew ?_ | refine blk_alloc ?_ _)); exact BK244.out) hb)
                  have n2_ := Aside0.mk (blk_below (g := gb246) (o := .cells #[.int .i64 ((rd_T23 l0 x10_1).f0), .int .i64 ((rd_T23 l0 x10_1).f1), .int .i64 ((rd_T23 l0 x10_1).f2), .int .i64 ((rd_T23 l0 x10_1).f3), .int .i64 ((rd_T23 l0 x10_1).f4), .int .i64 ((rd_T23 l0 x10_1).f5), .int .i64 ((rd_T23 l0 x10_1).f6)] 23 (0, 0)) (by (with_reducible repeat (first | refine blk_drewN ?_ _ | refine blk_drew ?_ | refine blk_alloc ?_ _)); exact BK246.out) hb)
                  have n3_ := Aside0.mk (below_step (by repeat (first | (with_reducible first | exact HB.out | apply below_alloc | apply pw_below_drewN | apply below_drew1 | refine below_set ?_ GE243.out | refine below_set ?_ GE244.out | refine below_set ?_ GE246.out) | exact HB.out)) hb)
                  clear BK243
                  clear BK244
                  clear BK246
                  clear HB
                  have BK243 := n0_
                  have BK244 := n1_
                  have BK246 := n2_
                  have HB := n3_
                  clear n0_ n1_ n2_ n3_
                  (try clear hb)
                  (try clear hb2)
                  (try clear hk)
                  (try clear hi)
                  refine hK.out _ _ ⟨(blk_cell BK246.out 0).trans rfl, (blk_cell BK246.out 1).trans rfl, (blk_cell BK246.out 2).trans rfl, (blk_cell BK246.out 3).trans rfl, (blk_cell BK246.out 4).trans rfl, (blk_cell BK246.out 5).trans rfl, (blk_cell BK246.out 6).trans rfl, (blk_cell BK244.out 0).trans rfl, (blk_cell BK244.out 1).trans rfl, (blk_cell BK244.out 2).trans rfl, (blk_cell BK244.out 3).trans rfl, (blk_cell BK244.out 4).trans rfl, (blk_cell BK244.out 5).trans rfl, (blk_cell BK244.out 6).trans rfl⟩ (fun hHeld => ?_)
                  clear hK K
                  refine norm_ (a' := ?_) ?_ ?_
                  rotate_left
                  · show Act.put _ (some 21) _ = _
                    simp only [Act.put, List.setIfInBounds_toArray, List.set_cons_zero, List.set_cons_succ, i64_w, i32_w]
                    rfl
                  refine one_ (i := 9) (N := some 23) #[true, true, true, true, true, true, true, true, true, true, false, false, false] rfl rfl (one_of HT_.out (by kernel_rfl)) (by decide) (fun K hK => ?_)
                  refine goes_ Try.func17 (by kernel_rfl) rfl #[.agg #[.int .i64 x245000_1, .int .i64 x245001_1, .int .i64 x245002_1, .int .i64 x245003_1, .int .i64 x245004_1, .int .i64 x245005_1, .int .i64 x245006_1]] (by rfl) rfl rfl (by (try simp only [List.map_toArray, List.map_cons, List.map_nil]); first | done | rfl | (simp only [List.length_drop, List.length_take]; rfl)) ?_
                  with_reducible refine (date_Unix.calls k1 x245000_1 x245001_1 x245002_1 x245003_1 x245004_1 x245005_1 x245006_1 t249 _ A11.out).mono ?_
                  rintro e w21 ⟨rfl, hb⟩
                  refine ⟨_, rfl, ?_⟩
                  have n0_ := Aside0.mk (blk_below (g := gb243) (o := .cells #[.int .i64 0, .int .i64 0, .int .i64 0, .int .i64 0, .int .i64 0, .int .i64 0, .int .i64 0] 23 (0, 0)) (by (with_reducible repeat (first | refine blk_drewN ?_ _ | refine blk_drew ?_ | refine blk_alloc ?_ _)); exact BK243.out) hb)
                  have n1_ := Aside0.mk (blk_below (g := gb244) (o := .cells #[.int .i64 x245000_1, .int .i64 x245001_1, .int .i64 x245002_1, .int .i64 x245003_1, .int .i64 x245004_1, .int .i64 x245005_1, .int .i64 x245006_1] 23 (0, 0)) (by (with_reducible repeat (first | refine blk_drewN ?_ _ | refine blk_drew ?_ | refine blk_alloc ?_ _)); exact BK244.out) hb)
                  have n2_ := Aside0.mk (blk_below (g := gb246) (o := .cells #[.int .i64 ((rd_T23 l0 x10_1).f0), .int .i64 ((rd_T23 l0 x10_1).f1), .int .i64 ((rd_T23 l0 x10_1).f2), .int .i64 ((rd_T23 l0 x10_1).f3), .int .i64 ((rd_T23 l0 x10_1).f4), .int .i64 ((rd_T23 l0 x10_1).f5), .int .i64 ((rd_T23 l0 x10_1).f6)] 23 (0, 0)) (by (with_reducible repeat (first | refine blk_drewN ?_ _ | refine blk_drew ?_ | refine blk_alloc ?_ _)); exact BK246.out) hb)
                  have n3_ := Aside0.mk (below_step (by repeat (first | (with_reducible first | exact HB.out | apply below_alloc | apply pw_below_drewN | apply below_drew1 | refine below_set ?_ GE243.out | refine below_set ?_ GE244.out | refine below_set ?_ GE246.out) | exact HB.out)) hb)
                  clear BK243
                  clear BK244
                  clear BK246
                  clear HB
                  have BK243 := n0_
                  have BK244 := n1_
                  have BK246 := n2_
                  have HB := n3_
                  clear n0_ n1_ n2_ n3_
                  (try clear hb)
                  (try clear hb2)
                  (try clear hk)
                  (try clear hi)
                  refine hK.out _ _ ⟨(blk_cell BK246.out 0).trans rfl, (blk_cell BK246.out 1).trans rfl, (blk_cell BK246.out 2).trans rfl, (blk_cell BK246.out 3).trans rfl, (blk_cell BK246.out 4).trans rfl, (blk_cell BK246.out 5).trans rfl, (blk_cell BK246.out 6).trans rfl, (blk_cell BK244.out 0).trans rfl, (blk_cell BK244.out 1).trans rfl, (blk_cell BK244.out 2).trans rfl, (blk_cell BK244.out 3).trans rfl, (blk_cell BK244.out 4).trans rfl, (blk_cell BK244.out 5).trans rfl, (blk_cell BK244.out 6).trans rfl⟩ (fun hHeld => ?_)
                  clear hK K
                  refine norm_ (a' := ?_) ?_ ?_
                  rotate_left
                  · show Act.put _ (some 23) _ = _
                    simp only [Act.put, List.setIfInBounds_toArray, List.set_cons_zero, List.set_cons_succ, i64_w, i32_w]
                    rfl
                  refine pure_ (i := 10) (N := some 24) (v := ?_) (a' := ?_) #[true, true, true, true, true, true, true, true, true, true, true, false, false] rfl rfl (any_of HT_.out (by kernel_rfl)) (fun _ _ _ h => h) (Or.inl ⟨by rfl, ?_⟩) ?_ ?_
                  rotate_left
                  · intro w'
                    go_simp
                    with_reducible rfl
                  rotate_left
                  · simp only [Act.put, List.setIfInBounds_toArray, List.set_cons_zero, List.set_cons_succ, i64_w, i32_w]
                    rfl
                  refine pure_ (i := 11) (N := some 25) (v := ?_) (a' := ?_) #[true, true, true, true, true, true, true, true, true, true, true, true, false] rfl rfl (any_of HT_.out (by kernel_rfl)) (fun _ _ _ h => h) (Or.inl ⟨by rfl, ?_⟩) ?_ ?_
                  rotate_left
                  · intro w'
                    go_simp
                    with_reducible rfl
                  rotate_left
                  · simp only [Act.put, List.setIfInBounds_toArray, List.set_cons_zero, List.set_cons_succ, i64_w, i32_w]
                    rfl
                  refine pure_ (i := 12) (N := some 26) (v := ?_) (a' := ?_) #[true, true, true, true, true, true, true, true, true, true, true, true, true] rfl rfl (any_of HT_.out (by kernel_rfl)) (fun _ _ _ h => h) (Or.inl ⟨by rfl, ?_⟩) ?_ ?_
                  rotate_left
                  · intro w'
                    go_simp
                    with_reducible rfl
                  rotate_left
                  · simp only [Act.put, List.setIfInBounds_toArray, List.set_cons_zero, List.set_cons_succ, i64_w, i32_w]
                    rfl
                  refine done_ (done_of HT_.out (by kernel_rfl)) ?_
                  have hcz22_0 : w21.cell? ⟨gb246, 0, none⟩ = some (.int .i64 ((rd_T23 l0 x10_1).f0)) := (blk_cell BK246.out 0).trans rfl
                  have hcz22_1 : w21.cell? ⟨gb246, 1, none⟩ = some (.int .i64 ((rd_T23 l0 x10_1).f1)) := (blk_cell BK246.out 1).trans rfl
                  have hcz22_2 : w21.cell? ⟨gb246, 2, none⟩ = some (.int .i64 ((rd_T23 l0 x10_1).f2)) := (blk_cell BK246.out 2).trans rfl
                  have hcz22_3 : w21.cell? ⟨gb246, 3, none⟩ = some (.int .i64 ((rd_T23 l0 x10_1).f3)) := (blk_cell BK246.out 3).trans rfl
                  have hcz22_4 : w21.cell? ⟨gb246, 4, none⟩ = some (.int .i64 ((rd_T23 l0 x10_1).f4)) := (blk_cell BK246.out 4).trans rfl
                  have hcz22_5 : w21.cell? ⟨gb246, 5, none⟩ = some (.int .i64 ((rd_T23 l0 x10_1).f5)) := (blk_cell BK246.out 5).trans rfl
                  have hcz22_6 : w21.cell? ⟨gb246, 6, none⟩ = some (.int .i64 ((rd_T23 l0 x10_1).f6)) := (blk_cell BK246.out 6).trans rfl
                  have hfz22_0 := blk_frozen BK246.out 0
                  have hfz22_1 := blk_frozen BK246.out 1
                  have hfz22_2 := blk_frozen BK246.out 2
                  have hfz22_3 := blk_frozen BK246.out 3
                  have hfz22_4 := blk_frozen BK246.out 4
                  have hfz22_5 := blk_frozen BK246.out 5
                  have hfz22_6 := blk_frozen BK246.out 6
                  have hnb23 := NB244_243.out
                  have hnc23 := NB243_244.out
                  have hcz24_0 : w21.cell? ⟨gb244, 0, none⟩ = some (.int .i64 x245000_1) := (blk_cell BK244.out 0).trans rfl
                  have hcz24_1 : w21.cell? ⟨gb244, 1, none⟩ = some (.int .i64 x245001_1) := (blk_cell BK244.out 1).trans rfl
                  have hcz24_2 : w21.cell? ⟨gb244, 2, none⟩ = some (.int .i64 x245002_1) := (blk_cell BK244.out 2).trans rfl
                  have hcz24_3 : w21.cell? ⟨gb244, 3, none⟩ = some (.int .i64 x245003_1) := (blk_cell BK244.out 3).trans rfl
                  have hcz24_4 : w21.cell? ⟨gb244, 4, none⟩ = some (.int .i64 x245004_1) := (blk_cell BK244.out 4).trans rfl
                  have hcz24_5 : w21.cell? ⟨gb244, 5, none⟩ = some (.int .i64 x245005_1) := (blk_cell BK244.out 5).trans rfl
                  have hcz24_6 : w21.cell? ⟨gb244, 6, none⟩ = some (.int .i64 x245006_1) := (blk_cell BK244.out 6).trans rfl
                  have hfz24_0 := blk_frozen BK244.out 0
                  have hfz24_1 := blk_frozen BK244.out 1
                  have hfz24_2 := blk_frozen BK244.out 2
                  have hfz24_3 := blk_frozen BK244.out 3
                  have hfz24_4 := blk_frozen BK244.out 4
                  have hfz24_5 := blk_frozen BK244.out 5
                  have hfz24_6 := blk_frozen BK244.out 6
                  try go_wp2
                  go_roundg k1
                  case measure => have := HK1.out; omega
                  case rel => exact ⟨(true), (wrap64 (x10_1 + 1)), ((rd_T23 l0 x10_1).f0), ((rd_T23 l0 x10_1).f1), ((rd_T23 l0 x10_1).f2), ((rd_T23 l0 x10_1).f3), ((rd_T23 l0 x10_1).f4), ((rd_T23 l0 x10_1).f5), ((rd_T23 l0 x10_1).f6), (by first | with_reducible rfl | (simp only [ByteArray.size_append, ByteArray.size_extract, Nat.min_self, Nat.sub_zero, Go.Proofs.Ytooknjpdflokkaa.My.lit_size, List.size_toArray, List.length_cons, List.length_nil, Nat.reduceAdd, Nat.zero_add]; done) | rfl | (simp; done) | (simp [*]; done)), (by first | with_reducible rfl | (simp only [ByteArray.size_append, ByteArray.size_extract, Nat.min_self, Nat.sub_zero, Go.Proofs.Ytooknjpdflokkaa.My.lit_size, List.size_toArray, List.length_cons, List.length_nil, Nat.reduceAdd, Nat.zero_add]; done) | rfl | (simp; done) | (simp [*]; done)), H', ⟨by have := HK1.out; omega⟩, ⟨by (with_reducible repeat (first | refine blk_drewN ?_ _ | refine blk_drew ?_ | refine blk_alloc ?_ _)); refine blk_far ?_ NB243_244.out _; (with_reducible repeat (first | refine blk_drewN ?_ _ | refine blk_drew ?_ | refine blk_alloc ?_ _)); refine blk_far ?_ NB243_244.out _; (with_reducible repeat (first | refine blk_drewN ?_ _ | refine blk_drew ?_ | refine blk_alloc ?_ _)); refine blk_far ?_ NB243_244.out _; (with_reducible repeat (first | refine blk_drewN ?_ _ | refine blk_drew ?_ | refine blk_alloc ?_ _)); refine blk_far ?_ NB243_244.out _; (with_reducible repeat (first | refine blk_drewN ?_ _ | refine blk_drew ?_ | refine blk_alloc ?_ _)); refine blk_far ?_ NB243_244.out _; (with_reducible repeat (first | refine blk_drewN ?_ _ | refine blk_drew ?_ | refine blk_alloc ?_ _)); refine blk_far ?_ NB243_244.out _; (with_reducible repeat (first | refine blk_drewN ?_ _ | refine blk_drew ?_ | refine blk_alloc ?_ _)); refine blk_far ?_ NB243_244.out _; (with_reducible repeat (first | refine blk_drewN ?_ _ | refine blk_drew ?_ | refine blk_alloc ?_ _)); exact BK243.out⟩, ⟨by (with_reducible repeat (first | refine blk_drewN ?_ _ | refine blk_drew ?_ | refine blk_alloc ?_ _)); refine blk_put (cs := #[.int .i64 ((rd_T23 l0 x10_1).f0), .int .i64 ((rd_T23 l0 x10_1).f1), .int .i64 ((rd_T23 l0 x10_1).f2), .int .i64 ((rd_T23 l0 x10_1).f3), .int .i64 ((rd_T23 l0 x10_1).f4), .int .i64 ((rd_T23 l0 x10_1).f5), .int .i64 x245006_1]) ?_ 6 _ rfl; (with_reducible repeat (first | refine blk_drewN ?_ _ | refine blk_drew ?_ | refine blk_alloc ?_ _)); refine blk_put (cs := #[.int .i64 ((rd_T23 l0 x10_1).f0), .int .i64 ((rd_T23 l0 x10_1).f1), .int .i64 ((rd_T23 l0 x10_1).f2), .int .i64 ((rd_T23 l0 x10_1).f3), .int .i64 ((rd_T23 l0 x10_1).f4), .int .i64 x245005_1, .int .i64 x245006_1]) ?_ 5 _ rfl; (with_reducible repeat (first | refine blk_drewN ?_ _ | refine blk_drew ?_ | refine blk_alloc ?_ _)); refine blk_put (cs := #[.int .i64 ((rd_T23 l0 x10_1).f0), .int .i64 ((rd_T23 l0 x10_1).f1), .int .i64 ((rd_T23 l0 x10_1).f2), .int .i64 ((rd_T23 l0 x10_1).f3), .int .i64 x245004_1, .int .i64 x245005_1, .int .i64 x245006_1]) ?_ 4 _ rfl; (with_reducible repeat (first | refine blk_drewN ?_ _ | refine blk_drew ?_ | refine blk_alloc ?_ _)); refine blk_put (cs := #[.int .i64 ((rd_T23 l0 x10_1).f0), .int .i64 ((rd_T23 l0 x10_1).f1), .int .i64 ((rd_T23 l0 x10_1).f2), .int .i64 x245003_1, .int .i64 x245004_1, .int .i64 x245005_1, .int .i64 x245006_1]) ?_ 3 _ rfl; (with_reducible repeat (first | refine blk_drewN ?_ _ | refine blk_drew ?_ | refine blk_alloc ?_ _)); refine blk_put (cs := #[.int .i64 ((rd_T23 l0 x10_1).f0), .int .i64 ((rd_T23 l0 x10_1).f1), .int .i64 x245002_1, .int .i64 x245003_1, .int .i64 x245004_1, .int .i64 x245005_1, .int .i64 x245006_1]) ?_ 2 _ rfl; (with_reducible repeat (first | refine blk_drewN ?_ _ | refine blk_drew ?_ | refine blk_alloc ?_ _)); refine blk_put (cs := #[.int .i64 ((rd_T23 l0 x10_1).f0), .int .i64 x245001_1, .int .i64 x245002_1, .int .i64 x245003_1, .int .i64 x245004_1, .int .i64 x245005_1, .int .i64 x245006_1]) ?_ 1 _ rfl; (with_reducible repeat (first | refine blk_drewN ?_ _ | refine blk_drew ?_ | refine blk_alloc ?_ _)); refine blk_put (cs := #[.int .i64 x245000_1, .int .i64 x245001_1, .int .i64 x245002_1, .int .i64 x245003_1, .int .i64 x245004_1, .int .i64 x245005_1, .int .i64 x245006_1]) ?_ 0 _ rfl; (with_reducible repeat (first | refine blk_drewN ?_ _ | refine blk_drew ?_ | refine blk_alloc ?_ _)); exact BK244.out⟩, ⟨by repeat (first | (with_reducible first | exact HB.out | apply below_alloc | apply pw_below_drewN | apply below_drew1 | refine below_set ?_ GE243.out | refine below_set ?_ GE244.out | refine below_set ?_ GE246.out) | exact HB.out)⟩⟩
                · rw [if_neg c12] at H
                  have c12b0 : decide (t249 < t248) = false := decide_eq_false c12
                  clear c12
                  have H' := Aside0.mk H
                  clear H
                  have p245 : 0 ≤ (x10_1 : Int) := of_decide_eq_true (by first | (with_reducible assumption) | assumption)
                  have q245 : x10_1 < (l0.length : Int) := of_decide_eq_true (by first | (with_reducible assumption) | assumption)
                  obtain ⟨ad245, e245, hx245_0, hx245_1, hx245_2, hx245_3, hx245_4, hx245_5, hx245_6⟩ := at_T23 HR0.out x10_1 p245 q245
                  cases e245
                  replace hx245_0 := (HB.out.cell (World.block_lt_of_cell? w _ hx245_0)).trans hx245_0
                  replace hx245_1 := (HB.out.cell (World.block_lt_of_cell? w _ hx245_1)).trans hx245_1
                  replace hx245_2 := (HB.out.cell (World.block_lt_of_cell? w _ hx245_2)).trans hx245_2
                  replace hx245_3 := (HB.out.cell (World.block_lt_of_cell? w _ hx245_3)).trans hx245_3
                  replace hx245_4 := (HB.out.cell (World.block_lt_of_cell? w _ hx245_4)).trans hx245_4
                  replace hx245_5 := (HB.out.cell (World.block_lt_of_cell? w _ hx245_5)).trans hx245_5
                  replace hx245_6 := (HB.out.cell (World.block_lt_of_cell? w _ hx245_6)).trans hx245_6
                  replace p245 := eq_true p245
                  replace q245 := eq_true q245
                  try go_wp2_with (first | ((with_reducible refine gate_dst (N := 7) rfl ?_); refine box_event ?hg (N := 7) ?hd (cs := #[.int .i64 0, .int .i64 0, .int .i64 0, .int .i64 0, .int .i64 0, .int .i64 0, .int .i64 0]) (t := 23) ?hr ?_; (case hd => rfl); (case hg => rfl); (case hr => first | (go_simp; done) | (go_simp; rfl)); intro gb246 hg w25 hbox hb; have n0_ := Aside0.mk (blk_below (g := gb243) (o := .cells #[.int .i64 0, .int .i64 0, .int .i64 0, .int .i64 0, .int .i64 0, .int .i64 0, .int .i64 0] 23 (0, 0)) (by (with_reducible repeat (first | refine blk_drewN ?_ _ | refine blk_drew ?_ | refine blk_alloc ?_ _)); exact BK243.out) hb); have n1_ := Aside0.mk (blk_below (g := gb244) (o := .cells #[.int .i64 x245000_1, .int .i64 x245001_1, .int .i64 x245002_1, .int .i64 x245003_1, .int .i64 x245004_1, .int .i64 x245005_1, .int .i64 x245006_1] 23 (0, 0)) (by (with_reducible repeat (first | refine blk_drewN ?_ _ | refine blk_drew ?_ | refine blk_alloc ?_ _)); exact BK244.out) hb); have n2_ := Aside0.mk (below_step (by repeat (first | (with_reducible first | exact HB.out | apply below_alloc | apply pw_below_drewN | apply below_drew1 | refine below_set ?_ GE243.out | refine below_set ?_ GE244.out) | exact HB.out)) hb); have n3_ := Aside0.mk (hbox); have n4_ := Aside0.mk ((by rw [hg]; exact (below_size (by repeat (first | (with_reducible first | exact HB.out | apply below_alloc | apply pw_below_drewN | apply below_drew1 | refine below_set ?_ GE243.out | refine below_set ?_ GE244.out) | exact HB.out))) : w.heap.size ≤ gb246)); have n5_ := Aside0.mk ((by rw [hg]; exact (below_size (by repeat (first | (with_reducible first | exact HB.out | apply below_alloc | apply pw_below_drewN | apply below_drew1 | refine below_set ?_ GE243.out | refine below_set ?_ GE244.out) | exact HB.out))) : w.heap.size ≤ gb246)); have n6_ := Aside0.mk ((by rw [hg]; exact Nat.ne_of_lt (blk_lt (g := gb243) (o := .cells #[.int .i64 0, .int .i64 0, .int .i64 0, .int .i64 0, .int .i64 0, .int .i64 0, .int .i64 0] 23 (0, 0)) (by (with_reducible repeat (first | refine blk_drewN ?_ _ | refine blk_drew ?_ | refine blk_alloc ?_ _)); exact BK243.out)) : gb243 ≠ gb246)); have n7_ := Aside0.mk ((by rw [hg]; exact Nat.ne_of_gt (blk_lt (g := gb243) (o := .cells #[.int .i64 0, .int .i64 0, .int .i64 0, .int .i64 0, .int .i64 0, .int .i64 0, .int .i64 0] 23 (0, 0)) (by (with_reducible repeat (first | refine blk_drewN ?_ _ | refine blk_drew ?_ | refine blk_alloc ?_ _)); exact BK243.out)) : gb246 ≠ gb243)); have n8_ := Aside0.mk ((by rw [hg]; exact Nat.ne_of_lt (blk_lt (g := gb244) (o := .cells #[.int .i64 x245000_1, .int .i64 x245001_1, .int .i64 x245002_1, .int .i64 x245003_1, .int .i64 x245004_1, .int .i64 x245005_1, .int .i64 x245006_1] 23 (0, 0)) (by (with_reducible repeat (first | refine blk_drewN ?_ _ | refine blk_drew ?_ | refine blk_alloc ?_ _)); exact BK244.out)) : gb244 ≠ gb246)); have n9_ := Aside0.mk ((by rw [hg]; exact Nat.ne_of_gt (blk_lt (g := gb244) (o := .cells #[.int .i64 x245000_1, .int .i64 x245001_1, .int .i64 x245002_1, .int .i64 x245003_1, .int .i64 x245004_1, .int .i64 x245005_1, .int .i64 x245006_1] 23 (0, 0)) (by (with_reducible repeat (first | refine blk_drewN ?_ _ | refine blk_drew ?_ | refine blk_alloc ?_ _)); exact BK244.out)) : gb246 ≠ gb244)); clear BK243; clear BK244; clear HB; have BK243 := n0_; have BK244 := n1_; have HB := n2_; have BK246 := n3_; have GW246 := n4_; have GE246 := n5_; have NB243_246 := n6_; have NB246_243 := n7_; have NB244_246 := n8_; have NB246_244 := n9_; clear n0_ n1_ n2_ n3_ n4_ n5_ n6_ n7_ n8_ n9_; clear hb hbox hg; have hnb26 := NB246_243.out; have hnc26 := NB243_246.out; have hnb27 := NB246_244.out; have hnc27 := NB244_246.out; have hcz28_0 : w25.cell? ⟨gb246, 0, none⟩ = some (.int .i64 0) := (blk_cell BK246.out 0).trans rfl; have hcz28_1 : w25.cell? ⟨gb246, 1, none⟩ = some (.int .i64 0) := (blk_cell BK246.out 1).trans rfl; have hcz28_2 : w25.cell? ⟨gb246, 2, none⟩ = some (.int .i64 0) := (blk_cell BK246.out 2).trans rfl; have hcz28_3 : w25.cell? ⟨gb246, 3, none⟩ = some (.int .i64 0) := (blk_cell BK246.out 3).trans rfl; have hcz28_4 : w25.cell? ⟨gb246, 4, none⟩ = some (.int .i64 0) := (blk_cell BK246.out 4).trans rfl; have hcz28_5 : w25.cell? ⟨gb246, 5, none⟩ = some (.int .i64 0) := (blk_cell BK246.out 5).trans rfl; have hcz28_6 : w25.cell? ⟨gb246, 6, none⟩ = some (.int .i64 0) := (blk_cell BK246.out 6).trans rfl; have hfz28_0 := blk_frozen BK246.out 0; have hfz28_1 := blk_frozen BK246.out 1; have hfz28_2 := blk_frozen BK246.out 2; have hfz28_3 := blk_frozen BK246.out 3; have hfz28_4 := blk_frozen BK246.out 4; have hfz28_5 := blk_frozen BK246.out 5; have hfz28_6 := blk_frozen BK246.out 6))
                  have n0_ : Aside0 ((((((((w25.setCell ⟨gb246, 0, none⟩ (.int .i64 ((rd_T23 l0 x10_1).f0))).setCell ⟨gb246, 1, none⟩ (.int .i64 ((rd_T23 l0 x10_1).f1))).setCell ⟨gb246, 2, none⟩ (.int .i64 ((rd_T23 l0 x10_1).f2))).setCell ⟨gb246, 3, none⟩ (.int .i64 ((rd_T23 l0 x10_1).f3))).setCell ⟨gb246, 4, none⟩ (.int .i64 ((rd_T23 l0 x10_1).f4))).setCell ⟨gb246, 5, none⟩ (.int .i64 ((rd_T23 l0 x10_1).f5))).setCell ⟨gb246, 6, none⟩ (.int .i64 ((rd_T23 l0 x10_1).f6))).heap[gb243]? = some (.cells #[.int .i64 0, .int .i64 0, .int .i64 0, .int .i64 0, .int .i64 0, .int .i64 0, .int .i64 0] 23 (0, 0))) := ⟨by (with_reducible repeat (first | refine blk_drewN ?_ _ | refine blk_drew ?_ | refine blk_alloc ?_ _)); refine blk_far ?_ NB243_246.out _; (with_reducible repeat (first | refine blk_drewN ?_ _ | refine blk_drew ?_ | refine blk_alloc ?_ _)); refine blk_far ?_ NB243_246.out _; (with_reducible repeat (first | refine blk_drewN ?_ _ | refine blk_drew ?_ | refine blk_alloc ?_ _)); refine blk_far ?_ NB243_246.out _; (with_reducible repeat (first | refine blk_drewN ?_ _ | refine blk_drew ?_ | refine blk_alloc ?_ _)); refine blk_far ?_ NB243_246.out _; (with_reducible repeat (first | refine blk_drewN ?_ _ | refine blk_drew ?_ | refine blk_alloc ?_ _)); refine blk_far ?_ NB243_246.out _; (with_reducible repeat (first | refine blk_drewN ?_ _ | refine blk_drew ?_ | refine blk_alloc ?_ _)); refine blk_far ?_ NB243_246.out _; (with_reducible repeat (first | refine blk_drewN ?_ _ | refine blk_drew ?_ | refine blk_alloc ?_ _)); refine blk_far ?_ NB243_246.out _; (with_reducible repeat (first | refine blk_drewN ?_ _ | refine blk_drew ?_ | refine blk_alloc ?_ _)); exact BK243.out⟩
                  have n1_ : Aside0 ((((((((w25.setCell ⟨gb246, 0, none⟩ (.int .i64 ((rd_T23 l0 x10_1).f0))).setCell ⟨gb246, 1, none⟩ (.int .i64 ((rd_T23 l0 x10_1).f1))).setCell ⟨gb246, 2, none⟩ (.int .i64 ((rd_T23 l0 x10_1).f2))).setCell ⟨gb246, 3, none⟩ (.int .i64 ((rd_T23 l0 x10_1).f3))).setCell ⟨gb246, 4, none⟩ (.int .i64 ((rd_T23 l0 x10_1).f4))).setCell ⟨gb246, 5, none⟩ (.int .i64 ((rd_T23 l0 x10_1).f5))).setCell ⟨gb246, 6, none⟩ (.int .i64 ((rd_T23 l0 x10_1).f6))).heap[gb244]? = some (.cells #[.int .i64 x245000_1, .int .i64 x245001_1, .int .i64 x245002_1, .int .i64 x245003_1, .int .i64 x245004_1, .int .i64 x245005_1, .int .i64 x245006_1] 23 (0, 0))) := ⟨by (with_reducible repeat (first | refine blk_drewN ?_ _ | refine blk_drew ?_ | refine blk_alloc ?_ _)); refine blk_far ?_ NB244_246.out _; (with_reducible repeat (first | refine blk_drewN ?_ _ | refine blk_drew ?_ | refine blk_alloc ?_ _)); refine blk_far ?_ NB244_246.out _; (with_reducible repeat (first | refine blk_drewN ?_ _ | refine blk_drew ?_ | refine blk_alloc ?_ _)); refine blk_far ?_ NB244_246.out _; (with_reducible repeat (first | refine blk_drewN ?_ _ | refine blk_drew ?_ | refine blk_alloc ?_ _)); refine blk_far ?_ NB244_246.out _; (with_reducible repeat (first | refine blk_drewN ?_ _ | refine blk_drew ?_ | refine blk_alloc ?_ _)); refine blk_far ?_ NB244_246.out _; (with_reducible repeat (first | refine blk_drewN ?_ _ | refine blk_drew ?_ | refine blk_alloc ?_ _)); refine blk_far ?_ NB244_246.out _; (with_reducible repeat (first | refine blk_drewN ?_ _ | refine blk_drew ?_ | refine blk_alloc ?_ _)); refine blk_far ?_ NB244_246.out _; (with_reducible repeat (first | refine blk_drewN ?_ _ | refine blk_drew ?_ | refine blk_alloc ?_ _)); exact BK244.out⟩
                  have n2_ : Aside0 ((((((((w25.setCell ⟨gb246, 0, none⟩ (.int .i64 ((rd_T23 l0 x10_1).f0))).setCell ⟨gb246, 1, none⟩ (.int .i64 ((rd_T23 l0 x10_1).f1))).setCell ⟨gb246, 2, none⟩ (.int .i64 ((rd_T23 l0 x10_1).f2))).setCell ⟨gb246, 3, none⟩ (.int .i64 ((rd_T23 l0 x10_1).f3))).setCell ⟨gb246, 4, none⟩ (.int .i64 ((rd_T23 l0 x10_1).f4))).setCell ⟨gb246, 5, none⟩ (.int .i64 ((rd_T23 l0 x10_1).f5))).setCell ⟨gb246, 6, none⟩ (.int .i64 ((rd_T23 l0 x10_1).f6))).heap[gb246]? = some (.cells #[.int .i64 ((rd_T23 l0 x10_1).f0), .int .i64 ((rd_T23 l0 x10_1).f1), .int .i64 ((rd_T23 l0 x10_1).f2), .int .i64 ((rd_T23 l0 x10_1).f3), .int .i64 ((rd_T23 l0 x10_1).f4), .int .i64 ((rd_T23 l0 x10_1).f5), .int .i64 ((rd_T23 l0 x10_1).f6)] 23 (0, 0))) := ⟨by (with_reducible repeat (first | refine blk_drewN ?_ _ | refine blk_drew ?_ | refine blk_alloc ?_ _)); refine blk_put (cs := #[.int .i64 ((rd_T23 l0 x10_1).f0), .int .i64 ((rd_T23 l0 x10_1).f1), .int .i64 ((rd_T23 l0 x10_1).f2), .int .i64 ((rd_T23 l0 x10_1).f3), .int .i64 ((rd_T23 l0 x10_1).f4), .int .i64 ((rd_T23 l0 x10_1).f5), .int .i64 0]) ?_ 6 _ rfl; (with_reducible repeat (first | refine blk_drewN ?_ _ | refine blk_drew ?_ | refine blk_alloc ?_ _)); refine blk_put (cs := #[.int .i64 ((rd_T23 l0 x10_1).f0), .int .i64 ((rd_T23 l0 x10_1).f1), .int .i64 ((rd_T23 l0 x10_1).f2), .int .i64 ((rd_T23 l0 x10_1).f3), .int .i64 ((rd_T23 l0 x10_1).f4), .int .i64 0, .int .i64 0]) ?_ 5 _ rfl; (with_reducible repeat (first | refine blk_drewN ?_ _ | refine blk_drew ?_ | refine blk_alloc ?_ _)); refine blk_put (cs := #[.int .i64 ((rd_T23 l0 x10_1).f0), .int .i64 ((rd_T23 l0 x10_1).f1), .int .i64 ((rd_T23 l0 x10_1).f2), .int .i64 ((rd_T23 l0 x10_1).f3), .int .i64 0, .int .i64 0, .int .i64 0]) ?_ 4 _ rfl; (with_reducible repeat (first | refine blk_drewN ?_ _ | refine blk_drew ?_ | refine blk_alloc ?_ _)); refine blk_put (cs := #[.int .i64 ((rd_T23 l0 x10_1).f0), .int .i64 ((rd_T23 l0 x10_1).f1), .int .i64 ((rd_T23 l0 x10_1).f2), .int .i64 0, .int .i64 0, .int .i64 0, .int .i64 0]) ?_ 3 _ rfl; (with_reducible repeat (first | refine blk_drewN ?_ _ | refine blk_drew ?_ | refine blk_alloc ?_ _)); refine blk_put (cs := #[.int .i64 ((rd_T23 l0 x10_1).f0), .int .i64 ((rd_T23 l0 x10_1).f1), .int .i64 0, .int .i64 0, .int .i64 0, .int .i64 0, .int .i64 0]) ?_ 2 _ rfl; (with_reducible repeat (first | refine blk_drewN ?_ _ | refine blk_drew ?_ | refine blk_alloc ?_ _)); refine blk_put (cs := #[.int .i64 ((rd_T23 l0 x10_1).f0), .int .i64 0, .int .i64 0, .int .i64 0, .int .i64 0, .int .i64 0, .int .i64 0]) ?_ 1 _ rfl; (with_reducible repeat (first | refine blk_drewN ?_ _ | refine blk_drew ?_ | refine blk_alloc ?_ _)); refine blk_put (cs := #[.int .i64 0, .int .i64 0, .int .i64 0, .int .i64 0, .int .i64 0, .int .i64 0, .int .i64 0]) ?_ 0 _ rfl; (with_reducible repeat (first | refine blk_drewN ?_ _ | refine blk_drew ?_ | refine blk_alloc ?_ _)); exact BK246.out⟩
                  have n3_ : Aside0 (Below w.heap.size w (((((((w25.setCell ⟨gb246, 0, none⟩ (.int .i64 ((rd_T23 l0 x10_1).f0))).setCell ⟨gb246, 1, none⟩ (.int .i64 ((rd_T23 l0 x10_1).f1))).setCell ⟨gb246, 2, none⟩ (.int .i64 ((rd_T23 l0 x10_1).f2))).setCell ⟨gb246, 3, none⟩ (.int .i64 ((rd_T23 l0 x10_1).f3))).setCell ⟨gb246, 4, none⟩ (.int .i64 ((rd_T23 l0 x10_1).f4))).setCell ⟨gb246, 5, none⟩ (.int .i64 ((rd_T23 l0 x10_1).f5))).setCell ⟨gb246, 6, none⟩ (.int .i64 ((rd_T23 l0 x10_1).f6)))) := ⟨by repeat (first | (with_reducible first | exact HB.out | apply below_alloc | apply pw_below_drewN | apply below_drew1 | refine below_set ?_ GE243.out | refine below_set ?_ GE244.out | refine below_set ?_ GE246.out) | exact HB.out)⟩
                  (try clear BK243)
                  (try clear BK244)
                  (try clear BK246)
                  (try clear HB)
                  generalize (((((((w25.setCell ⟨gb246, 0, none⟩ (.int .i64 ((rd_T23 l0 x10_1).f0))).setCell ⟨gb246, 1, none⟩ (.int .i64 ((rd_T23 l0 x10_1).f1))).setCell ⟨gb246, 2, none⟩ (.int .i64 ((rd_T23 l0 x10_1).f2))).setCell ⟨gb246, 3, none⟩ (.int .i64 ((rd_T23 l0 x10_1).f3))).setCell ⟨gb246, 4, none⟩ (.int .i64 ((rd_T23 l0 x10_1).f4))).setCell ⟨gb246, 5, none⟩ (.int .i64 ((rd_T23 l0 x10_1).f5))).setCell ⟨gb246, 6, none⟩ (.int .i64 ((rd_T23 l0 x10_1).f6))) = w29 at n0_ n1_ n2_ n3_ ⊢
                  have BK243 := n0_
                  have BK244 := n1_
                  have BK246 := n2_
                  have HB := n3_
                  clear n0_ n1_ n2_ n3_
                  have n0_ := Aside0.mk (blk_drew BK243.out)
                  have n1_ := Aside0.mk (blk_drew BK244.out)
                  have n2_ := Aside0.mk (blk_drew BK246.out)
                  have n3_ := Aside0.mk (below_drew1 HB.out)
                  clear BK243
                  clear BK244
                  clear BK246
                  clear HB
                  have BK243 := n0_
                  have BK244 := n1_
                  have BK246 := n2_
                  have HB := n3_
                  clear n0_ n1_ n2_ n3_
                  refine start_ (n := 13) (S := fun w' => w'.cell? ⟨gb246, 0, none⟩ = some (.int .i64 ((rd_T23 l0 x10_1).f0)) ∧ w'.cell? ⟨gb246, 1, none⟩ = some (.int .i64 ((rd_T23 l0 x10_1).f1)) ∧ w'.cell? ⟨gb246, 2, none⟩ = some (.int .i64 ((rd_T23 l0 x10_1).f2)) ∧ w'.cell? ⟨gb246, 3, none⟩ = some (.int .i64 ((rd_T23 l0 x10_1).f3)) ∧ w'.cell? ⟨gb246, 4, none⟩ = some (.int .i64 ((rd_T23 l0 x10_1).f4)) ∧ w'.cell? ⟨gb246, 5, none⟩ = some (.int .i64 ((rd_T23 l0 x10_1).f5)) ∧ w'.cell? ⟨gb246, 6, none⟩ = some (.int .i64 ((rd_T23 l0 x10_1).f6)) ∧ w'.cell? ⟨gb244, 0, none⟩ = some (.int .i64 x245000_1) ∧ w'.cell? ⟨gb244, 1, none⟩ = some (.int .i64 x245001_1) ∧ w'.cell? ⟨gb244, 2, none⟩ = some (.int .i64 x245002_1) ∧ w'.cell? ⟨gb244, 3, none⟩ = some (.int .i64 x245003_1) ∧ w'.cell? ⟨gb244, 4, none⟩ = some (.int .i64 x245004_1) ∧ w'.cell? ⟨gb244, 5, none⟩ = some (.int .i64 x245005_1) ∧ w'.cell? ⟨gb244, 6, none⟩ = some (.int .i64 x245006_1)) (ds := []) #[false, false, false, false, false, false, false, false, false, false, false, false, false] (by kernel_rfl) rfl rfl ⟨(blk_cell BK246.out 0).trans rfl, (blk_cell BK246.out 1).trans rfl, (blk_cell BK246.out 2).trans rfl, (blk_cell BK246.out 3).trans rfl, (blk_cell BK246.out 4).trans rfl, (blk_cell BK246.out 5).trans rfl, (blk_cell BK246.out 6).trans rfl, (blk_cell BK244.out 0).trans rfl, (blk_cell BK244.out 1).trans rfl, (blk_cell BK244.out 2).trans rfl, (blk_cell BK244.out 3).trans rfl, (blk_cell BK244.out 4).trans rfl, (blk_cell BK244.out 5).trans rfl, (blk_cell BK244.out 6).trans rfl⟩ (fun hHeld => ?_); refine with_tabW date_Last.tab6 date_Last.bits6 (fun HT_ HW_ => ?_)
                  generalize w29.drew = w30 at BK243 BK244 BK246 HB hHeld ⊢
                  refine take_ (i := 0) (N := some 14) (v := ?_) (a' := ?_) #[true, false, false, false, false, false, false, false, false, false, false, false, false] rfl rfl (take_ofW HT_.out HW_.out (by kernel_rfl)) (fun _ _ _ h => h) (Or.inl ⟨by rfl, ?_⟩) hHeld ?_ ?_
                  rotate_left
                  · rintro w' ⟨s0, s1, s2, s3, s4, s5, s6, s7, s8, s9, s10, s11, s12, s13⟩
                    go_simp
                    with_reducible rfl
                  rotate_left
                  · simp only [Act.put, List.setIfInBounds_toArray, List.set_cons_zero, List.set_cons_succ, i64_w, i32_w]
                    rfl
                  refine one_ (i := 1) (N := some 15) #[true, true, false, false, false, false, false, false, false, false, false, false, false] rfl rfl (one_of HT_.out (by kernel_rfl)) (by decide) (fun K hK => ?_)
                  refine goes_ Try.func16 (by kernel_rfl) rfl #[.agg #[.int .i64 ((rd_T23 l0 x10_1).f0), .int .i64 ((rd_T23 l0 x10_1).f1), .int .i64 ((rd_T23 l0 x10_1).f2), .int .i64 ((rd_T23 l0 x10_1).f3), .int .i64 ((rd_T23 l0 x10_1).f4), .int .i64 ((rd_T23 l0 x10_1).f5), .int .i64 ((rd_T23 l0 x10_1).f6)]] (by rfl) rfl rfl (by (try simp only [List.map_toArray, List.map_cons, List.map_nil]); first | done | rfl | (simp only [List.length_drop, List.length_take]; rfl)) ?_
                  with_reducible refine (date_Right.calls k1 ((rd_T23 l0 x10_1).f0) ((rd_T23 l0 x10_1).f1) ((rd_T23 l0 x10_1).f2) ((rd_T23 l0 x10_1).f3) ((rd_T23 l0 x10_1).f4) ((rd_T23 l0 x10_1).f5) ((rd_T23 l0 x10_1).f6) true _ A7.out).mono ?_
                  rintro e w31 ⟨rfl, hb⟩
                  refine ⟨_, rfl, ?_⟩
                  have n0_ := Aside0.mk (blk_below (g := gb243) (o := .cells #[.int .i64 0, .int .i64 0, .int .i64 0, .int .i64 0, .int .i64 0, .int .i64 0, .int .i64 0] 23 (0, 0)) (by (with_reducible repeat (first | refine blk_drewN ?_ _ | refine blk_drew ?_ | refine blk_alloc ?_ _)); exact BK243.out) hb)
                  have n1_ := Aside0.mk (blk_below (g := gb244) (o := .cells #[.int .i64 x245000_1, .int .i64 x245001_1, .int .i64 x245002_1, .int .i64 x245003_1, .int .i64 x245004_1, .int .i64 x245005_1, .int .i64 x245006_1] 23 (0, 0)) (by (with_reducible repeat (first | refine blk_drewN ?_ _ | refine blk_drew ?_ | refine blk_alloc ?_ _)); exact BK244.out) hb)
                  have n2_ := Aside0.mk (blk_below (g := gb246) (o := .cells #[.int .i64 ((rd_T23 l0 x10_1).f0), .int .i64 ((rd_T23 l0 x10_1).f1), .int .i64 ((rd_T23 l0 x10_1).f2), .int .i64 ((rd_T23 l0 x10_1).f3), .int .i64 ((rd_T23 l0 x10_1).f4), .int .i64 ((rd_T23 l0 x10_1).f5), .int .i64 ((rd_T23 l0 x10_1).f6)] 23 (0, 0)) (by (with_reducible repeat (first | refine blk_drewN ?_ _ | refine blk_drew ?_ | refine blk_alloc ?_ _)); exact BK246.out) hb)
                  have n3_ := Aside0.mk (below_step (by repeat (first | (with_reducible first | exact HB.out | apply below_alloc | apply pw_below_drewN | apply below_drew1 | refine below_set ?_ GE243.out | refine below_set ?_ GE244.out | refine below_set ?_ GE246.out) | exact HB.out)) hb)
                  clear BK243
                  clear BK244
                  clear BK246
                  clear HB
                  have BK243 := n0_
                  have BK244 := n1_
                  have BK246 := n2_
                  have HB := n3_
                  clear n0_ n1_ n2_ n3_
                  (try clear hb)
                  (try clear hb2)
                  (try clear hk)
                  (try clear hi)
                  refine hK.out _ _ ⟨(blk_cell BK246.out 0).trans rfl, (blk_cell BK246.out 1).trans rfl, (blk_cell BK246.out 2).trans rfl, (blk_cell BK246.out 3).trans rfl, (blk_cell BK246.out 4).trans rfl, (blk_cell BK246.out 5).trans rfl, (blk_cell BK246.out 6).trans rfl, (blk_cell BK244.out 0).trans rfl, (blk_cell BK244.out 1).trans rfl, (blk_cell BK244.out 2).trans rfl, (blk_cell BK244.out 3).trans rfl, (blk_cell BK244.out 4).trans rfl, (blk_cell BK244.out 5).trans rfl, (blk_cell BK244.out 6).trans rfl⟩ (fun hHeld => ?_)
                  clear hK K
                  refine norm_ (a' := ?_) ?_ ?_
                  rotate_left
                  · show Act.put _ (some 15) _ = _
                    simp only [Act.put, List.setIfInBounds_toArray, List.set_cons_zero, List.set_cons_succ, i64_w, i32_w]
                    rfl
                  refine pure_ (i := 2) (N := some 16) (v := ?_) (a' := ?_) #[true, true, true, false, false, false, false, false, false, false, false, false, false] rfl rfl (any_of HT_.out (by kernel_rfl)) (fun _ _ _ h => h) (Or.inl ⟨by rfl, ?_⟩) ?_ ?_
                  rotate_left
                  · intro w'
                    go_simp
                    with_reducible rfl
                  rotate_left
                  · simp only [Act.put, List.setIfInBounds_toArray, List.set_cons_zero, List.set_cons_succ, i64_w, i32_w]
                    rfl
                  refine pure_ (i := 3) (N := some 17) (v := ?_) (a' := ?_) #[true, true, true, true, false, false, false, false, false, false, false, false, false] rfl rfl (any_of HT_.out (by kernel_rfl)) (fun _ _ _ h => h) (Or.inl ⟨by rfl, ?_⟩) ?_ ?_
                  rotate_left
                  · intro w'
                    go_simp
                    with_reducible rfl
                  rotate_left
                  · simp only [Act.put, List.setIfInBounds_toArray, List.set_cons_zero, List.set_cons_succ, i64_w, i32_w]
                    rfl
                  refine pure_ (i := 4) (N := some 18) (v := ?_) (a' := ?_) #[true, true, true, true, true, false, false, false, false, false, false, false, false] rfl rfl (any_of HT_.out (by kernel_rfl)) (fun _ _ _ h => h) (Or.inl ⟨by rfl, ?_⟩) ?_ ?_
                  rotate_left
                  · intro w'
                    go_simp
                    with_reducible rfl
                  rotate_left
                  · simp only [Act.put, List.setIfInBounds_toArray, List.set_cons_zero, List.set_cons_succ, i64_w, i32_w]
                    rfl
                  refine pure_ (i := 5) (N := some 19) (v := ?_) (a' := ?_) #[true, true, true, true, true, true, false, false, false, false, false, false, false] rfl rfl (any_of HT_.out (by kernel_rfl)) (fun _ _ _ h => h) (Or.inl ⟨by rfl, ?_⟩) ?_ ?_
                  rotate_left
                  · intro w'
                    go_simp
                    with_reducible rfl
                  rotate_left
                  · simp only [Act.put, List.setIfInBounds_toArray, List.set_cons_zero, List.set_cons_succ, i64_w, i32_w]
                    rfl
                  refine take_ (i := 6) (N := some 20) (v := ?_) (a' := ?_) #[true, true, true, true, true, true, true, false, false, false, false, false, false] rfl rfl (take_ofW HT_.out HW_.out (by kernel_rfl)) (fun _ _ _ h => h) (Or.inl ⟨by rfl, ?_⟩) hHeld ?_ ?_
                  rotate_left
                  · rintro w' ⟨s0, s1, s2, s3, s4, s5, s6, s7, s8, s9, s10, s11, s12, s13⟩
                    go_simp
                    with_reducible rfl
                  rotate_left
                  · simp only [Act.put, List.setIfInBounds_toArray, List.set_cons_zero, List.set_cons_succ, i64_w, i32_w]
                    rfl
                  refine take_ (i := 8) (N := some 22) (v := ?_) (a' := ?_) #[true, true, true, true, true, true, true, false, true, false, false, false, false] rfl rfl (take_ofW HT_.out HW_.out (by kernel_rfl)) (fun _ _ _ h => h) (Or.inl ⟨by rfl, ?_⟩) hHeld ?_ ?_
                  rotate_left
                  · rintro w' ⟨s0, s1, s2, s3, s4, s5, s6, s7, s8, s9, s10, s11, s12, s13⟩
                    go_simp
                    with_reducible rfl
                  rotate_left
                  · simp only [Act.put, List.setIfInBounds_toArray, List.set_cons_zero, List.set_cons_succ, i64_w, i32_w]
                    rfl
                  refine one_ (i := 7) (N := some 21) #[true, true, true, true, true, true, true, true, true, false, false, false, false] rfl rfl (one_of HT_.out (by kernel_rfl)) (by decide) (fun K hK => ?_)
                  refine goes_ Try.func17 (by kernel_rfl) rfl #[.agg #[.int .i64 ((rd_T23 l0 x10_1).f0), .int .i64 ((rd_T23 l0 x10_1).f1), .int .i64 ((rd_T23 l0 x10_1).f2), .int .i64 ((rd_T23 l0 x10_1).f3), .int .i64 ((rd_T23 l0 x10_1).f4), .int .i64 ((rd_T23 l0 x10_1).f5), .int .i64 ((rd_T23 l0 x10_1).f6)]] (by rfl) rfl rfl (by (try simp only [List.map_toArray, List.map_cons, List.map_nil]); first | done | rfl | (simp only [List.length_drop, List.length_take]; rfl)) ?_
                  with_reducible refine (date_Unix.calls k1 ((rd_T23 l0 x10_1).f0) ((rd_T23 l0 x10_1).f1) ((rd_T23 l0 x10_1).f2) ((rd_T23 l0 x10_1).f3) ((rd_T23 l0 x10_1).f4) ((rd_T23 l0 x10_1).f5) ((rd_T23 l0 x10_1).f6) t248 _ A10.out).mono ?_
                  rintro e w32 ⟨rfl, hb⟩
                  refine ⟨_, rfl, ?_⟩
                  have n0_ := Aside0.mk (blk_below (g := gb243) (o := .cells #[.int .i64 0, .int .i64 0, .int .i64 0, .int .i64 0, .int .i64 0, .int .i64 0, .int .i64 0] 23 (0, 0)) (by (with_reducible repeat (first | refine blk_drewN ?_ _ | refine blk_drew ?_ | refine blk_alloc ?_ _)); exact BK243.out) hb)
                  have n1_ := Aside0.mk (blk_below (g := gb244) (o := .cells #[.int .i64 x245000_1, .int .i64 x245001_1, .int .i64 x245002_1, .int .i64 x245003_1, .int .i64 x245004_1, .int .i64 x245005_1, .int .i64 x245006_1] 23 (0, 0)) (by (with_reducible repeat (first | refine blk_drewN ?_ _ | refine blk_drew ?_ | refine blk_alloc ?_ _)); exact BK244.out) hb)
                  have n2_ := Aside0.mk (blk_below (g := gb246) (o := .cells #[.int .i64 ((rd_T23 l0 x10_1).f0), .int .i64 ((rd_T23 l0 x10_1).f1), .int .i64 ((rd_T23 l0 x10_1).f2), .int .i64 ((rd_T23 l0 x10_1).f3), .int .i64 ((rd_T23 l0 x10_1).f4), .int .i64 ((rd_T23 l0 x10_1).f5), .int .i64 ((rd_T23 l0 x10_1).f6)] 23 (0, 0)) (by (with_reducible repeat (first | refine blk_drewN ?_ _ | refine blk_drew ?_ | refine blk_alloc ?_ _)); exact BK246.out) hb)
                  have n3_ := Aside0.mk (below_step (by repeat (first | (with_reducible first | exact HB.out | apply below_alloc | apply pw_below_drewN | apply below_drew1 | refine below_set ?_ GE243.out | refine below_set ?_ GE244.out | refine below_set ?_ GE246.out) | exact HB.out)) hb)
                  clear BK243
                  clear BK244
                  clear BK246
                  clear HB
                  have BK243 := n0_
                  have BK244 := n1_
                  have BK246 := n2_
                  have HB := n3_
                  clear n0_ n1_ n2_ n3_
                  (try clear hb)
                  (try clear hb2)
                  (try clear hk)
                  (try clear hi)
                  refine hK.out _ _ ⟨(blk_cell BK246.out 0).trans rfl, (blk_cell BK246.out 1).trans rfl, (blk_cell BK246.out 2).trans rfl, (blk_cell BK246.out 3).trans rfl, (blk_cell BK246.out 4).trans rfl, (blk_cell BK246.out 5).trans rfl, (blk_cell BK246.out 6).trans rfl, (blk_cell BK244.out 0).trans rfl, (blk_cell BK244.out 1).trans rfl, (blk_cell BK244.out 2).trans rfl, (blk_cell BK244.out 3).trans rfl, (blk_cell BK244.out 4).trans rfl, (blk_cell BK244.out 5).trans rfl, (blk_cell BK244.out 6).trans rfl⟩ (fun hHeld => ?_)
                  clear hK K
                  refine norm_ (a' := ?_) ?_ ?_
                  rotate_left
                  · show Act.put _ (some 21) _ = _
                    simp only [Act.put, List.setIfInBounds_toArray, List.set_cons_zero, List.set_cons_succ, i64_w, i32_w]
                    rfl
                  refine one_ (i := 9) (N := some 23) #[true, true, true, true, true, true, true, true, true, true, false, false, false] rfl rfl (one_of HT_.out (by kernel_rfl)) (by decide) (fun K hK => ?_)
                  refine goes_ Try.func17 (by kernel_rfl) rfl #[.agg #[.int .i64 x245000_1, .int .i64 x245001_1, .int .i64 x245002_1, .int .i64 x245003_1, .int .i64 x245004_1, .int .i64 x245005_1, .int .i64 x245006_1]] (by rfl) rfl rfl (by (try simp only [List.map_toArray, List.map_cons, List.map_nil]); first | done | rfl | (simp only [List.length_drop, List.length_take]; rfl)) ?_
                  with_reducible refine (date_Unix.calls k1 x245000_1 x245001_1 x245002_1 x245003_1 x245004_1 x245005_1 x245006_1 t249 _ A11.out).mono ?_
                  rintro e w33 ⟨rfl, hb⟩
                  refine ⟨_, rfl, ?_⟩
                  have n0_ := Aside0.mk (blk_below (g := gb243) (o := .cells #[.int .i64 0, .int .i64 0, .int .i64 0, .int .i64 0, .int .i64 0, .int .i64 0, .int .i64 0] 23 (0, 0)) (by (with_reducible repeat (first | refine blk_drewN ?_ _ | refine blk_drew ?_ | refine blk_alloc ?_ _)); exact BK243.out) hb)
                  have n1_ := Aside0.mk (blk_below (g := gb244) (o := .cells #[.int .i64 x245000_1, .int .i64 x245001_1, .int .i64 x245002_1, .int .i64 x245003_1, .int .i64 x245004_1, .int .i64 x245005_1, .int .i64 x245006_1] 23 (0, 0)) (by (with_reducible repeat (first | refine blk_drewN ?_ _ | refine blk_drew ?_ | refine blk_alloc ?_ _)); exact BK244.out) hb)
                  have n2_ := Aside0.mk (blk_below (g := gb246) (o := .cells #[.int .i64 ((rd_T23 l0 x10_1).f0), .int .i64 ((rd_T23 l0 x10_1).f1), .int .i64 ((rd_T23 l0 x10_1).f2), .int .i64 ((rd_T23 l0 x10_1).f3), .int .i64 ((rd_T23 l0 x10_1).f4), .int .i64 ((rd_T23 l0 x10_1).f5), .int .i64 ((rd_T23 l0 x10_1).f6)] 23 (0, 0)) (by (with_reducible repeat (first | refine blk_drewN ?_ _ | refine blk_drew ?_ | refine blk_alloc ?_ _)); exact BK246.out) hb)
                  have n3_ := Aside0.mk (below_step (by repeat (first | (with_reducible first | exact HB.out | apply below_alloc | apply pw_below_drewN | apply below_drew1 | refine below_set ?_ GE243.out | refine below_set ?_ GE244.out | refine below_set ?_ GE246.out) | exact HB.out)) hb)
                  clear BK243
                  clear BK244
                  clear BK246
                  clear HB
                  have BK243 := n0_
                  have BK244 := n1_
                  have BK246 := n2_
                  have HB := n3_
                  clear n0_ n1_ n2_ n3_
                  (try clear hb)
                  (try clear hb2)
                  (try clear hk)
                  (try clear hi)
                  refine hK.out _ _ ⟨(blk_cell BK246.out 0).trans rfl, (blk_cell BK246.out 1).trans rfl, (blk_cell BK246.out 2).trans rfl, (blk_cell BK246.out 3).trans rfl, (blk_cell BK246.out 4).trans rfl, (blk_cell BK246.out 5).trans rfl, (blk_cell BK246.out 6).trans rfl, (blk_cell BK244.out 0).trans rfl, (blk_cell BK244.out 1).trans rfl, (blk_cell BK244.out 2).trans rfl, (blk_cell BK244.out 3).trans rfl, (blk_cell BK244.out 4).trans rfl, (blk_cell BK244.out 5).trans rfl, (blk_cell BK244.out 6).trans rfl⟩ (fun hHeld => ?_)
                  clear hK K
                  refine norm_ (a' := ?_) ?_ ?_
                  rotate_left
                  · show Act.put _ (some 23) _ = _
                    simp only [Act.put, List.setIfInBounds_toArray, List.set_cons_zero, List.set_cons_succ, i64_w, i32_w]
                    rfl
                  refine pure_ (i := 10) (N := some 24) (v := ?_) (a' := ?_) #[true, true, true, true, true, true, true, true, true, true, true, false, false] rfl rfl (any_of HT_.out (by kernel_rfl)) (fun _ _ _ h => h) (Or.inl ⟨by rfl, ?_⟩) ?_ ?_
                  rotate_left
                  · intro w'
                    go_simp
                    with_reducible rfl
                  rotate_left
                  · simp only [Act.put, List.setIfInBounds_toArray, List.set_cons_zero, List.set_cons_succ, i64_w, i32_w]
                    rfl
                  refine pure_ (i := 11) (N := some 25) (v := ?_) (a' := ?_) #[true, true, true, true, true, true, true, true, true, true, true, true, false] rfl rfl (any_of HT_.out (by kernel_rfl)) (fun _ _ _ h => h) (Or.inl ⟨by rfl, ?_⟩) ?_ ?_
                  rotate_left
                  · intro w'
                    go_simp
                    with_reducible rfl
                  rotate_left
                  · simp only [Act.put, List.setIfInBounds_toArray, List.set_cons_zero, List.set_cons_succ, i64_w, i32_w]
                    rfl
                  refine pure_ (i := 12) (N := some 26) (v := ?_) (a' := ?_) #[true, true, true, true, true, true, true, true, true, true, true, true, true] rfl rfl (any_of HT_.out (by kernel_rfl)) (fun _ _ _ h => h) (Or.inl ⟨by rfl, ?_⟩) ?_ ?_
                  rotate_left
                  · intro w'
                    go_simp
                    with_reducible rfl
                  rotate_left
                  · simp only [Act.put, List.setIfInBounds_toArray, List.set_cons_zero, List.set_cons_succ, i64_w, i32_w]
                    rfl
                  refine done_ (done_of HT_.out (by kernel_rfl)) ?_
                  try go_wp2
                  go_roundg k1
                  case measure => have := HK1.out; omega
                  case rel => exact ⟨(true), (wrap64 (x10_1 + 1)), (x245000_1), (x245001_1), (x245002_1), (x245003_1), (x245004_1), (x245005_1), (x245006_1), (by first | with_reducible rfl | (simp only [ByteArray.size_append, ByteArray.size_extract, Nat.min_self, Nat.sub_zero, Go.Proofs.Ytooknjpdflokkaa.My.lit_size, List.size_toArray, List.length_cons, List.length_nil, Nat.reduceAdd, Nat.zero_add]; done) | rfl | (simp; done) | (simp [*]; done)), (by first | with_reducible rfl | (simp only [ByteArray.size_append, ByteArray.size_extract, Nat.min_self, Nat.sub_zero, Go.Proofs.Ytooknjpdflokkaa.My.lit_size, List.size_toArray, List.length_cons, List.length_nil, Nat.reduceAdd, Nat.zero_add]; done) | rfl | (simp; done) | (simp [*]; done)), H', ⟨by have := HK1.out; omega⟩, ⟨by (with_reducible repeat (first | refine blk_drewN ?_ _ | refine blk_drew ?_ | refine blk_alloc ?_ _)); exact BK243.out⟩, ⟨by (with_reducible repeat (first | refine blk_drewN ?_ _ | refine blk_drew ?_ | refine blk_alloc ?_ _)); exact BK244.out⟩, ⟨by repeat (first | (with_reducible first | exact HB.out | apply below_alloc | apply pw_below_drewN | apply below_drew1 | refine below_set ?_ GE243.out | refine below_set ?_ GE244.out | refine below_set ?_ GE246.out) | exact HB.out)⟩⟩
              · replace c9 := Bool.eq_false_iff.mpr c9
                subst c9
                have H1 : (date_Last.l0 k1 true l0 (l0.length : Int) (wrap64 (x10_1 + 1)) ((rd_T23 l0 x10_1).f0) ((rd_T23 l0 x10_1).f1) ((rd_T23 l0 x10_1).f2) ((rd_T23 l0 x10_1).f3) ((rd_T23 l0 x10_1).f4) ((rd_T23 l0 x10_1).f5) ((rd_T23 l0 x10_1).f6)) = some (r1, r2, r3, r4, r5, r6, r7, r8) := by rw [if_neg (show ¬ (false = true) by decide)] at H; exact H
                clear H
                have H := H1
                clear H1
                have H' := Aside0.mk H
                clear H
                have p245 : 0 ≤ (x10_1 : Int) := of_decide_eq_true (by first | (with_reducible assumption) | assumption)
                have q245 : x10_1 < (l0.length : Int) := of_decide_eq_true (by first | (with_reducible assumption) | assumption)
                obtain ⟨ad245, e245, hx245_0, hx245_1, hx245_2, hx245_3, hx245_4, hx245_5, hx245_6⟩ := at_T23 HR0.out x10_1 p245 q245
                cases e245
                replace hx245_0 := (HB.out.cell (World.block_lt_of_cell? w _ hx245_0)).trans hx245_0
                replace hx245_1 := (HB.out.cell (World.block_lt_of_cell? w _ hx245_1)).trans hx245_1
                replace hx245_2 := (HB.out.cell (World.block_lt_of_cell? w _ hx245_2)).trans hx245_2
                replace hx245_3 := (HB.out.cell (World.block_lt_of_cell? w _ hx245_3)).trans hx245_3
                replace hx245_4 := (HB.out.cell (World.block_lt_of_cell? w _ hx245_4)).trans hx245_4
                replace hx245_5 := (HB.out.cell (World.block_lt_of_cell? w _ hx245_5)).trans hx245_5
                replace hx245_6 := (HB.out.cell (World.block_lt_of_cell? w _ hx245_6)).trans hx245_6
                replace p245 := eq_true p245
                replace q245 := eq_true q245
                try go_wp2_with (first | ((with_reducible refine gate_dst (N := 7) rfl ?_); refine box_event ?hg (N := 7) ?hd (cs := #[.int .i64 0, .int .i64 0, .int .i64 0, .int .i64 0, .int .i64 0, .int .i64 0, .int .i64 0]) (t := 23) ?hr ?_; (case hd => rfl); (case hg => rfl); (case hr => first | (go_simp; done) | (go_simp; rfl)); intro gb246 hg w34 hbox hb; have n0_ := Aside0.mk (blk_below (g := gb243) (o := .cells #[.int .i64 0, .int .i64 0, .int .i64 0, .int .i64 0, .int .i64 0, .int .i64 0, .int .i64 0] 23 (0, 0)) (by (with_reducible repeat (first | refine blk_drewN ?_ _ | refine blk_drew ?_ | refine blk_alloc ?_ _)); exact BK243.out) hb); have n1_ := Aside0.mk (blk_below (g := gb244) (o := .cells #[.int .i64 x245000_1, .int .i64 x245001_1, .int .i64 x245002_1, .int .i64 x245003_1, .int .i64 x245004_1, .int .i64 x245005_1, .int .i64 x245006_1] 23 (0, 0)) (by (with_reducible repeat (first | refine blk_drewN ?_ _ | refine blk_drew ?_ | refine blk_alloc ?_ _)); exact BK244.out) hb); have n2_ := Aside0.mk (below_step (by repeat (first | (with_reducible first | exact HB.out | apply below_alloc | apply pw_below_drewN | apply below_drew1 | refine below_set ?_ GE243.out | refine below_set ?_ GE244.out) | exact HB.out)) hb); have n3_ := Aside0.mk (hbox); have n4_ := Aside0.mk ((by rw [hg]; exact (below_size (by repeat (first | (with_reducible first | exact HB.out | apply below_alloc | apply pw_below_drewN | apply below_drew1 | refine below_set ?_ GE243.out | refine below_set ?_ GE244.out) | exact HB.out))) : w.heap.size ≤ gb246)); have n5_ := Aside0.mk ((by rw [hg]; exact (below_size (by repeat (first | (with_reducible first | exact HB.out | apply below_alloc | apply pw_below_drewN | apply below_drew1 | refine below_set ?_ GE243.out | refine below_set ?_ GE244.out) | exact HB.out))) : w.heap.size ≤ gb246)); have n6_ := Aside0.mk ((by rw [hg]; exact Nat.ne_of_lt (blk_lt (g := gb243) (o := .cells #[.int .i64 0, .int .i64 0, .int .i64 0, .int .i64 0, .int .i64 0, .int .i64 0, .int .i64 0] 23 (0, 0)) (by (with_reducible repeat (first | refine blk_drewN ?_ _ | refine blk_drew ?_ | refine blk_alloc ?_ _)); exact BK243.out)) : gb243 ≠ gb246)); have n7_ := Aside0.mk ((by rw [hg]; exact Nat.ne_of_gt (blk_lt (g := gb243) (o := .cells #[.int .i64 0, .int .i64 0, .int .i64 0, .int .i64 0, .int .i64 0, .int .i64 0, .int .i64 0] 23 (0, 0)) (by (with_reducible repeat (first | refine blk_drewN ?_ _ | refine blk_drew ?_ | refine blk_alloc ?_ _)); exact BK243.out)) : gb246 ≠ gb243)); have n8_ := Aside0.mk ((by rw [hg]; exact Nat.ne_of_lt (blk_lt (g := gb244) (o := .cells #[.int .i64 x245000_1, .int .i64 x245001_1, .int .i64 x245002_1, .int .i64 x245003_1, .int .i64 x245004_1, .int .i64 x245005_1, .int .i64 x245006_1] 23 (0, 0)) (by (with_reducible repeat (first | refine blk_drewN ?_ _ | refine blk_drew ?_ | refine blk_alloc ?_ _)); exact BK244.out)) : gb244 ≠ gb246)); have n9_ := Aside0.mk ((by rw [hg]; exact Nat.ne_of_gt (blk_lt (g := gb244) (o := .cells #[.int .i64 x245000_1, .int .i64 x245001_1, .int .i64 x245002_1, .int .i64 x245003_1, .int .i64 x245004_1, .int .i64 x245005_1, .int .i64 x245006_1] 23 (0, 0)) (by (with_reducible repeat (first | refine blk_drewN ?_ _ | refine blk_drew ?_ | refine blk_alloc ?_ _)); exact BK244.out)) : gb246 ≠ gb244)); clear BK243; clear BK244; clear HB; have BK243 := n0_; have BK244 := n1_; have HB := n2_; have BK246 := n3_; have GW246 := n4_; have GE246 := n5_; have NB243_246 := n6_; have NB246_243 := n7_; have NB244_246 := n8_; have NB246_244 := n9_; clear n0_ n1_ n2_ n3_ n4_ n5_ n6_ n7_ n8_ n9_; clear hb hbox hg; have hnb35 := NB246_243.out; have hnc35 := NB243_246.out; have hnb36 := NB246_244.out; have hnc36 := NB244_246.out; have hcz37_0 : w34.cell? ⟨gb246, 0, none⟩ = some (.int .i64 0) := (blk_cell BK246.out 0).trans rfl; have hcz37_1 : w34.cell? ⟨gb246, 1, none⟩ = some (.int .i64 0) := (blk_cell BK246.out 1).trans rfl; have hcz37_2 : w34.cell? ⟨gb246, 2, none⟩ = some (.int .i64 0) := (blk_cell BK246.out 2).trans rfl; have hcz37_3 : w34.cell? ⟨gb246, 3, none⟩ = some (.int .i64 0) := (blk_cell BK246.out 3).trans rfl; have hcz37_4 : w34.cell? ⟨gb246, 4, none⟩ = some (.int .i64 0) := (blk_cell BK246.out 4).trans rfl; have hcz37_5 : w34.cell? ⟨gb246, 5, none⟩ = some (.int .i64 0) := (blk_cell BK246.out 5).trans rfl; have hcz37_6 : w34.cell? ⟨gb246, 6, none⟩ = some (.int .i64 0) := (blk_cell BK246.out 6).trans rfl; have hfz37_0 := blk_frozen BK246.out 0; have hfz37_1 := blk_frozen BK246.out 1; have hfz37_2 := blk_frozen BK246.out 2; have hfz37_3 := blk_frozen BK246.out 3; have hfz37_4 := blk_frozen BK246.out 4; have hfz37_5 := blk_frozen BK246.out 5; have hfz37_6 := blk_frozen BK246.out 6))
                have n0_ : Aside0 ((((((((w34.setCell ⟨gb246, 0, none⟩ (.int .i64 ((rd_T23 l0 x10_1).f0))).setCell ⟨gb246, 1, none⟩ (.int .i64 ((rd_T23 l0 x10_1).f1))).setCell ⟨gb246, 2, none⟩ (.int .i64 ((rd_T23 l0 x10_1).f2))).setCell ⟨gb246, 3, none⟩ (.int .i64 ((rd_T23 l0 x10_1).f3))).setCell ⟨gb246, 4, none⟩ (.int .i64 ((rd_T23 l0 x10_1).f4))).setCell ⟨gb246, 5, none⟩ (.int .i64 ((rd_T23 l0 x10_1).f5))).setCell ⟨gb246, 6, none⟩ (.int .i64 ((rd_T23 l0 x10_1).f6))).heap[gb243]? = some (.cells #[.int .i64 0, .int .i64 0, .int .i64 0, .int .i64 0, .int .i64 0, .int .i64 0, .int .i64 0] 23 (0, 0))) := ⟨by (with_reducible repeat (first | refine blk_drewN ?_ _ | refine blk_drew ?_ | refine blk_alloc ?_ _)); refine blk_far ?_ NB243_246.out _; (with_reducible repeat (first | refine blk_drewN ?_ _ | refine blk_drew ?_ | refine blk_alloc ?_ _)); refine blk_far ?_ NB243_246.out _; (with_reducible repeat (first | refine blk_drewN ?_ _ | refine blk_drew ?_ | refine blk_alloc ?_ _)); refine blk_far ?_ NB243_246.out _; (with_reducible repeat (first | refine blk_drewN ?_ _ | refine blk_drew ?_ | refine blk_alloc ?_ _)); refine blk_far ?_ NB243_246.out _; (with_reducible repeat (first | refine blk_drewN ?_ _ | refine blk_drew ?_ | refine blk_alloc ?_ _)); refine blk_far ?_ NB243_246.out _; (with_reducible repeat (first | refine blk_drewN ?_ _ | refine blk_drew ?_ | refine blk_alloc ?_ _)); refine blk_far ?_ NB243_246.out _; (with_reducible repeat (first | refine blk_drewN ?_ _ | refine blk_drew ?_ | refine blk_alloc ?_ _)); refine blk_far ?_ NB243_246.out _; (with_reducible repeat (first | refine blk_drewN ?_ _ | refine blk_drew ?_ | refine blk_alloc ?_ _)); exact BK243.out⟩
                have n1_ : Aside0 ((((((((w34.setCell ⟨gb246, 0, none⟩ (.int .i64 ((rd_T23 l0 x10_1).f0))).setCell ⟨gb246, 1, none⟩ (.int .i64 ((rd_T23 l0 x10_1).f1))).setCell ⟨gb246, 2, none⟩ (.int .i64 ((rd_T23 l0 x10_1).f2))).setCell ⟨gb246, 3, none⟩ (.int .i64 ((rd_T23 l0 x10_1).f3))).setCell ⟨gb246, 4, none⟩ (.int .i64 ((rd_T23 l0 x10_1).f4))).setCell ⟨gb246, 5, none⟩ (.int .i64 ((rd_T23 l0 x10_1).f5))).setCell ⟨gb246, 6, none⟩ (.int .i64 ((rd_T23 l0 x10_1).f6))).heap[gb244]? = some (.cells #[.int .i64 x245000_1, .int .i64 x245001_1, .int .i64 x245002_1, .int .i64 x245003_1, .int .i64 x245004_1, .int .i64 x245005_1, .int .i64 x245006_1] 23 (0, 0))) := ⟨by (with_reducible repeat (first | refine blk_drewN ?_ _ | refine blk_drew ?_ | refine blk_alloc ?_ _)); refine blk_far ?_ NB244_246.out _; (with_reducible repeat (first | refine blk_drewN ?_ _ | refine blk_drew ?_ | refine blk_alloc ?_ _)); refine blk_far ?_ NB244_246.out _; (with_reducible repeat (first | refine blk_drewN ?_ _ | refine blk_drew ?_ | refine blk_alloc ?_ _)); refine blk_far ?_ NB244_246.out _; (with_reducible repeat (first | refine blk_drewN ?_ _ | refine blk_drew ?_ | refine blk_alloc ?_ _)); refine blk_far ?_ NB244_246.out _; (with_reducible repeat (first | refine blk_drewN ?_ _ | refine blk_drew ?_ | refine blk_alloc ?_ _)); refine blk_far ?_ NB244_246.out _; (with_reducible repeat (first | refine blk_drewN ?_ _ | refine blk_drew ?_ | refine blk_alloc ?_ _)); refine blk_far ?_ NB244_246.out _; (with_reducible repeat (first | refine blk_drewN ?_ _ | refine blk_drew ?_ | refine blk_alloc ?_ _)); refine blk_far ?_ NB244_246.out _; (with_reducible repeat (first | refine blk_drewN ?_ _ | refine blk_drew ?_ | refine blk_alloc ?_ _)); exact BK244.out⟩
                have n2_ : Aside0 ((((((((w34.setCell ⟨gb246, 0, none⟩ (.int .i64 ((rd_T23 l0 x10_1).f0))).setCell ⟨gb246, 1, none⟩ (.int .i64 ((rd_T23 l0 x10_1).f1))).setCell ⟨gb246, 2, none⟩ (.int .i64 ((rd_T23 l0 x10_1).f2))).setCell ⟨gb246, 3, none⟩ (.int .i64 ((rd_T23 l0 x10_1).f3))).setCell ⟨gb246, 4, none⟩ (.int .i64 ((rd_T23 l0 x10_1).f4))).setCell ⟨gb246, 5, none⟩ (.int .i64 ((rd_T23 l0 x10_1).f5))).setCell ⟨gb246, 6, none⟩ (.int .i64 ((rd_T23 l0 x10_1).f6))).heap[gb246]? = some (.cells #[.int .i64 ((rd_T23 l0 x10_1).f0), .int .i64 ((rd_T23 l0 x10_1).f1), .int .i64 ((rd_T23 l0 x10_1).f2), .int .i64 ((rd_T23 l0 x10_1).f3), .int .i64 ((rd_T23 l0 x10_1).f4), .int .i64 ((rd_T23 l0 x10_1).f5), .int .i64 ((rd_T23 l0 x10_1).f6)] 23 (0, 0))) := ⟨by (with_reducible repeat (first | refine blk_drewN ?_ _ | refine blk_drew ?_ | refine blk_alloc ?_ _)); refine blk_put (cs := #[.int .i64 ((rd_T23 l0 x10_1).f0), .int .i64 ((rd_T23 l0 x10_1).f1), .int .i64 ((rd_T23 l0 x10_1).f2), .int .i64 ((rd_T23 l0 x10_1).f3), .int .i64 ((rd_T23 l0 x10_1).f4), .int .i64 ((rd_T23 l0 x10_1).f5), .int .i64 0]) ?_ 6 _ rfl; (with_reducible repeat (first | refine blk_drewN ?_ _ | refine blk_drew ?_ | refine blk_alloc ?_ _)); refine blk_put (cs := #[.int .i64 ((rd_T23 l0 x10_1).f0), .int .i64 ((rd_T23 l0 x10_1).f1), .int .i64 ((rd_T23 l0 x10_1).f2), .int .i64 ((rd_T23 l0 x10_1).f3), .int .i64 ((rd_T23 l0 x10_1).f4), .int .i64 0, .int .i64 0]) ?_ 5 _ rfl; (with_reducible repeat (first | refine blk_drewN ?_ _ | refine blk_drew ?_ | refine blk_alloc ?_ _)); refine blk_put (cs := #[.int .i64 ((rd_T23 l0 x10_1).f0), .int .i64 ((rd_T23 l0 x10_1).f1), .int .i64 ((rd_T23 l0 x10_1).f2), .int .i64 ((rd_T23 l0 x10_1).f3), .int .i64 0, .int .i64 0, .int .i64 0]) ?_ 4 _ rfl; (with_reducible repeat (first | refine blk_drewN ?_ _ | refine blk_drew ?_ | refine blk_alloc ?_ _)); refine blk_put (cs := #[.int .i64 ((rd_T23 l0 x10_1).f0), .int .i64 ((rd_T23 l0 x10_1).f1), .int .i64 ((rd_T23 l0 x10_1).f2), .int .i64 0, .int .i64 0, .int .i64 0, .int .i64 0]) ?_ 3 _ rfl; (with_reducible repeat (first | refine blk_drewN ?_ _ | refine blk_drew ?_ | refine blk_alloc ?_ _)); refine blk_put (cs := #[.int .i64 ((rd_T23 l0 x10_1).f0), .int .i64 ((rd_T23 l0 x10_1).f1), .int .i64 0, .int .i64 0, .int .i64 0, .int .i64 0, .int .i64 0]) ?_ 2 _ rfl; (with_reducible repeat (first | refine blk_drewN ?_ _ | refine blk_drew ?_ | refine blk_alloc ?_ _)); refine blk_put (cs := #[.int .i64 ((rd_T23 l0 x10_1).f0), .int .i64 0, .int .i64 0, .int .i64 0, .int .i64 0, .int .i64 0, .int .i64 0]) ?_ 1 _ rfl; (with_reducible repeat (first | refine blk_drewN ?_ _ | refine blk_drew ?_ | refine blk_alloc ?_ _)); refine blk_put (cs := #[.int .i64 0, .int .i64 0, .int .i64 0, .int .i64 0, .int .i64 0, .int .i64 0, .int .i64 0]) ?_ 0 _ rfl; (with_reducible repeat (first | refine blk_drewN ?_ _ | refine blk_drew ?_ | refine blk_alloc ?_ _)); exact BK246.out⟩
                have n3_ : Aside0 (Below w.heap.size w (((((((w34.setCell ⟨gb246, 0, none⟩ (.int .i64 ((rd_T23 l0 x10_1).f0))).setCell ⟨gb246, 1, none⟩ (.int .i64 ((rd_T23 l0 x10_1).f1))).setCell ⟨gb246, 2, none⟩ (.int .i64 ((rd_T23 l0 x10_1).f2))).setCell ⟨gb246, 3, none⟩ (.int .i64 ((rd_T23 l0 x10_1).f3))).setCell ⟨gb246, 4, none⟩ (.int .i64 ((rd_T23 l0 x10_1).f4))).setCell ⟨gb246, 5, none⟩ (.int .i64 ((rd_T23 l0 x10_1).f5))).setCell ⟨gb246, 6, none⟩ (.int .i64 ((rd_T23 l0 x10_1).f6)))) := ⟨by repeat (first | (with_reducible first | exact HB.out | apply below_alloc | apply pw_below_drewN | apply below_drew1 | refine below_set ?_ GE243.out | refine below_set ?_ GE244.out | refine below_set ?_ GE246.out) | exact HB.out)⟩
                (try clear BK243)
                (try clear BK244)
                (try clear BK246)
                (try clear HB)
                generalize (((((((w34.setCell ⟨gb246, 0, none⟩ (.int .i64 ((rd_T23 l0 x10_1).f0))).setCell ⟨gb246, 1, none⟩ (.int .i64 ((rd_T23 l0 x10_1).f1))).setCell ⟨gb246, 2, none⟩ (.int .i64 ((rd_T23 l0 x10_1).f2))).setCell ⟨gb246, 3, none⟩ (.int .i64 ((rd_T23 l0 x10_1).f3))).setCell ⟨gb246, 4, none⟩ (.int .i64 ((rd_T23 l0 x10_1).f4))).setCell ⟨gb246, 5, none⟩ (.int .i64 ((rd_T23 l0 x10_1).f5))).setCell ⟨gb246, 6, none⟩ (.int .i64 ((rd_T23 l0 x10_1).f6))) = w38 at n0_ n1_ n2_ n3_ ⊢
                have BK243 := n0_
                have BK244 := n1_
                have BK246 := n2_
                have HB := n3_
                clear n0_ n1_ n2_ n3_
                have n0_ := Aside0.mk (blk_drew BK243.out)
                have n1_ := Aside0.mk (blk_drew BK244.out)
                have n2_ := Aside0.mk (blk_drew BK246.out)
                have n3_ := Aside0.mk (below_drew1 HB.out)
                clear BK243
                clear BK244
                clear BK246
                clear HB
                have BK243 := n0_
                have BK244 := n1_
                have BK246 := n2_
                have HB := n3_
                clear n0_ n1_ n2_ n3_
                refine start_ (n := 13) (S := fun w' => w'.cell? ⟨gb246, 0, none⟩ = some (.int .i64 ((rd_T23 l0 x10_1).f0)) ∧ w'.cell? ⟨gb246, 1, none⟩ = some (.int .i64 ((rd_T23 l0 x10_1).f1)) ∧ w'.cell? ⟨gb246, 2, none⟩ = some (.int .i64 ((rd_T23 l0 x10_1).f2)) ∧ w'.cell? ⟨gb246, 3, none⟩ = some (.int .i64 ((rd_T23 l0 x10_1).f3)) ∧ w'.cell? ⟨gb246, 4, none⟩ = some (.int .i64 ((rd_T23 l0 x10_1).f4)) ∧ w'.cell? ⟨gb246, 5, none⟩ = some (.int .i64 ((rd_T23 l0 x10_1).f5)) ∧ w'.cell? ⟨gb246, 6, none⟩ = some (.int .i64 ((rd_T23 l0 x10_1).f6))) (ds := []) #[false, false, false, false, false, false, false, false, false, false, false, false, false] (by kernel_rfl) rfl rfl ⟨(blk_cell BK246.out 0).trans rfl, (blk_cell BK246.out 1).trans rfl, (blk_cell BK246.out 2).trans rfl, (blk_cell BK246.out 3).trans rfl, (blk_cell BK246.out 4).trans rfl, (blk_cell BK246.out 5).trans rfl, (blk_cell BK246.out 6).trans rfl⟩ (fun hHeld => ?_); refine with_tabW date_Last.tab6 date_Last.bits6 (fun HT_ HW_ => ?_)
                generalize w38.drew = w39 at BK243 BK244 BK246 HB hHeld ⊢
                refine take_ (i := 0) (N := some 14) (v := ?_) (a' := ?_) #[true, false, false, false, false, false, false, false, false, false, false, false, false] rfl rfl (take_ofW HT_.out HW_.out (by kernel_rfl)) (fun _ _ _ h => h) (Or.inl ⟨by rfl, ?_⟩) hHeld ?_ ?_
                rotate_left
                · rintro w' ⟨s0, s1, s2, s3, s4, s5, s6⟩
                  go_simp
                  with_reducible rfl
                rotate_left
                · simp only [Act.put, List.setIfInBounds_toArray, List.set_cons_zero, List.set_cons_succ, i64_w, i32_w]
                  rfl
                refine one_ (i := 1) (N := some 15) #[true, true, false, false, false, false, false, false, false, false, false, false, false] rfl rfl (one_of HT_.out (by kernel_rfl)) (by decide) (fun K hK => ?_)
                refine goes_ Try.func16 (by kernel_rfl) rfl #[.agg #[.int .i64 ((rd_T23 l0 x10_1).f0), .int .i64 ((rd_T23 l0 x10_1).f1), .int .i64 ((rd_T23 l0 x10_1).f2), .int .i64 ((rd_T23 l0 x10_1).f3), .int .i64 ((rd_T23 l0 x10_1).f4), .int .i64 ((rd_T23 l0 x10_1).f5), .int .i64 ((rd_T23 l0 x10_1).f6)]] (by rfl) rfl rfl (by (try simp only [List.map_toArray, List.map_cons, List.map_nil]); first | done | rfl | (simp only [List.length_drop, List.length_take]; rfl)) ?_
                with_reducible refine (date_Right.calls k1 ((rd_T23 l0 x10_1).f0) ((rd_T23 l0 x10_1).f1) ((rd_T23 l0 x10_1).f2) ((rd_T23 l0 x10_1).f3) ((rd_T23 l0 x10_1).f4) ((rd_T23 l0 x10_1).f5) ((rd_T23 l0 x10_1).f6) true _ A7.out).mono ?_
                rintro e w40 ⟨rfl, hb⟩
                refine ⟨_, rfl, ?_⟩
                have n0_ := Aside0.mk (blk_below (g := gb243) (o := .cells #[.int .i64 0, .int .i64 0, .int .i64 0, .int .i64 0, .int .i64 0, .int .i64 0, .int .i64 0] 23 (0, 0)) (by (with_reducible repeat (first | refine blk_drewN ?_ _ | refine blk_drew ?_ | refine blk_alloc ?_ _)); exact BK243.out) hb)
                have n1_ := Aside0.mk (blk_below (g := gb244) (o := .cells #[.int .i64 x245000_1, .int .i64 x245001_1, .int .i64 x245002_1, .int .i64 x245003_1, .int .i64 x245004_1, .int .i64 x245005_1, .int .i64 x245006_1] 23 (0, 0)) (by (with_reducible repeat (first | refine blk_drewN ?_ _ | refine blk_drew ?_ | refine blk_alloc ?_ _)); exact BK244.out) hb)
                have n2_ := Aside0.mk (blk_below (g := gb246) (o := .cells #[.int .i64 ((rd_T23 l0 x10_1).f0), .int .i64 ((rd_T23 l0 x10_1).f1), .int .i64 ((rd_T23 l0 x10_1).f2), .int .i64 ((rd_T23 l0 x10_1).f3), .int .i64 ((rd_T23 l0 x10_1).f4), .int .i64 ((rd_T23 l0 x10_1).f5), .int .i64 ((rd_T23 l0 x10_1).f6)] 23 (0, 0)) (by (with_reducible repeat (first | refine blk_drewN ?_ _ | refine blk_drew ?_ | refine blk_alloc ?_ _)); exact BK246.out) hb)
                have n3_ := Aside0.mk (below_step (by repeat (first | (with_reducible first | exact HB.out | apply below_alloc | apply pw_below_drewN | apply below_drew1 | refine below_set ?_ GE243.out | refine below_set ?_ GE244.out | refine below_set ?_ GE246.out) | exact HB.out)) hb)
                clear BK243
                clear BK244
                clear BK246
                clear HB
                have BK243 := n0_
                have BK244 := n1_
                have BK246 := n2_
                have HB := n3_
                clear n0_ n1_ n2_ n3_
                (try clear hb)
                (try clear hb2)
                (try clear hk)
                (try clear hi)
                refine hK.out _ _ ⟨(blk_cell BK246.out 0).trans rfl, (blk_cell BK246.out 1).trans rfl, (blk_cell BK246.out 2).trans rfl, (blk_cell BK246.out 3).trans rfl, (blk_cell BK246.out 4).trans rfl, (blk_cell BK246.out 5).trans rfl, (blk_cell BK246.out 6).trans rfl⟩ (fun hHeld => ?_)
                clear hK K
                refine norm_ (a' := ?_) ?_ ?_
                rotate_left
                · show Act.put _ (some 15) _ = _
                  simp only [Act.put, List.setIfInBounds_toArray, List.set_cons_zero, List.set_cons_succ, i64_w, i32_w]
                  rfl
                refine pure_ (i := 2) (N := some 16) (v := ?_) (a' := ?_) #[true, true, true, false, false, false, false, false, false, false, false, false, false] rfl rfl (any_of HT_.out (by kernel_rfl)) (fun _ _ _ h => h) (Or.inl ⟨by rfl, ?_⟩) ?_ ?_
                rotate_left
                · intro w'
                  go_simp
                  with_reducible rfl
                rotate_left
                · simp only [Act.put, List.setIfInBounds_toArray, List.set_cons_zero, List.set_cons_succ, i64_w, i32_w]
                  rfl
                refine pure_ (i := 3) (N := some 17) (v := ?_) (a' := ?_) #[true, true, true, true, false, false, false, false, false, false, false, false, false] rfl rfl (any_of HT_.out (by kernel_rfl)) (fun _ _ _ h => h) (Or.inl ⟨by rfl, ?_⟩) ?_ ?_
                rotate_left
                · intro w'
                  go_simp
                  with_reducible rfl
                rotate_left
                · simp only [Act.put, List.setIfInBounds_toArray, List.set_cons_zero, List.set_cons_succ, i64_w, i32_w]
                  rfl
                refine pure_ (i := 4) (N := some 18) (v := ?_) (a' := ?_) #[true, true, true, true, true, false, false, false, false, false, false, false, false] rfl rfl (any_of HT_.out (by kernel_rfl)) (fun _ _ _ h => h) (Or.inl ⟨by rfl, ?_⟩) ?_ ?_
                rotate_left
                · intro w'
                  go_simp
                  with_reducible rfl
                rotate_left
                · simp only [Act.put, List.setIfInBounds_toArray, List.set_cons_zero, List.set_cons_succ, i64_w, i32_w]
                  rfl
                refine pure_ (i := 5) (N := some 19) (v := ?_) (a' := ?_) #[true, true, true, true, true, true, false, false, false, false, false, false, false] rfl rfl (any_of HT_.out (by kernel_rfl)) (fun _ _ _ h => h) (Or.inl ⟨by rfl, ?_⟩) ?_ ?_
                rotate_left
                · intro w'
                  go_simp
                  with_reducible rfl
                rotate_left
                · simp only [Act.put, List.setIfInBounds_toArray, List.set_cons_zero, List.set_cons_succ, i64_w, i32_w]
                  rfl
                refine pure_ (i := 6) (N := some 20) (v := undef) (a' := ?_) #[true, true, true, true, true, true, true, false, false, false, false, false, false] rfl rfl (any_of HT_.out (by kernel_rfl)) (fun _ _ _ h => h) (Or.inr ⟨by rfl, rfl⟩) ?_ ?_
                rotate_left
                · simp only [Act.put, List.setIfInBounds_toArray, List.set_cons_zero, List.set_cons_succ, i64_w, i32_w]
                  rfl
                refine pure_ (i := 7) (N := some 21) (v := undef) (a' := ?_) #[true, true, true, true, true, true, true, true, false, false, false, false, false] rfl rfl (any_of HT_.out (by kernel_rfl)) (fun _ _ _ h => h) (Or.inr ⟨by rfl, rfl⟩) ?_ ?_
                rotate_left
                · simp only [Act.put, List.setIfInBounds_toArray, List.set_cons_zero, List.set_cons_succ, i64_w, i32_w]
                  rfl
                refine pure_ (i := 8) (N := some 22) (v := undef) (a' := ?_) #[true, true, true, true, true, true, true, true, true, false, false, false, false] rfl rfl (any_of HT_.out (by kernel_rfl)) (fun _ _ _ h => h) (Or.inr ⟨by rfl, rfl⟩) ?_ ?_
                rotate_left
                · simp only [Act.put, List.setIfInBounds_toArray, List.set_cons_zero, List.set_cons_succ, i64_w, i32_w]
                  rfl
                refine pure_ (i := 9) (N := some 23) (v := undef) (a' := ?_) #[true, true, true, true, true, true, true, true, true, true, false, false, false] rfl rfl (any_of HT_.out (by kernel_rfl)) (fun _ _ _ h => h) (Or.inr ⟨by rfl, rfl⟩) ?_ ?_
                rotate_left
                · simp only [Act.put, List.setIfInBounds_toArray, List.set_cons_zero, List.set_cons_succ, i64_w, i32_w]
                  rfl
                refine pure_ (i := 10) (N := some 24) (v := undef) (a' := ?_) #[true, true, true, true, true, true, true, true, true, true, true, false, false] rfl rfl (any_of HT_.out (by kernel_rfl)) (fun _ _ _ h => h) (Or.inr ⟨by rfl, rfl⟩) ?_ ?_
                rotate_left
                · simp only [Act.put, List.setIfInBounds_toArray, List.set_cons_zero, List.set_cons_succ, i64_w, i32_w]
                  rfl
                refine pure_ (i := 11) (N := some 25) (v := ?_) (a' := ?_) #[true, true, true, true, true, true, true, true, true, true, true, true, false] rfl rfl (any_of HT_.out (by kernel_rfl)) (fun _ _ _ h => h) (Or.inl ⟨by rfl, ?_⟩) ?_ ?_
                rotate_left
                · intro w'
                  go_simp
                  with_reducible rfl
                rotate_left
                · simp only [Act.put, List.setIfInBounds_toArray, List.set_cons_zero, List.set_cons_succ, i64_w, i32_w]
                  rfl
                refine pure_ (i := 12) (N := some 26) (v := ?_) (a' := ?_) #[true, true, true, true, true, true, true, true, true, true, true, true, true] rfl rfl (any_of HT_.out (by kernel_rfl)) (fun _ _ _ h => h) (Or.inl ⟨by rfl, ?_⟩) ?_ ?_
                rotate_left
                · intro w'
                  go_simp
                  with_reducible rfl
                rotate_left
                · simp only [Act.put, List.setIfInBounds_toArray, List.set_cons_zero, List.set_cons_succ, i64_w, i32_w]
                  rfl
                refine done_ (done_of HT_.out (by kernel_rfl)) ?_
                have hcz41_0 : w40.cell? ⟨gb246, 0, none⟩ = some (.int .i64 ((rd_T23 l0 x10_1).f0)) := (blk_cell BK246.out 0).trans rfl
                have hcz41_1 : w40.cell? ⟨gb246, 1, none⟩ = some (.int .i64 ((rd_T23 l0 x10_1).f1)) := (blk_cell BK246.out 1).trans rfl
                have hcz41_2 : w40.cell? ⟨gb246, 2, none⟩ = some (.int .i64 ((rd_T23 l0 x10_1).f2)) := (blk_cell BK246.out 2).trans rfl
                have hcz41_3 : w40.cell? ⟨gb246, 3, none⟩ = some (.int .i64 ((rd_T23 l0 x10_1).f3)) := (blk_cell BK246.out 3).trans rfl
                have hcz41_4 : w40.cell? ⟨gb246, 4, none⟩ = some (.int .i64 ((rd_T23 l0 x10_1).f4)) := (blk_cell BK246.out 4).trans rfl
                have hcz41_5 : w40.cell? ⟨gb246, 5, none⟩ = some (.int .i64 ((rd_T23 l0 x10_1).f5)) := (blk_cell BK246.out 5).trans rfl
                have hcz41_6 : w40.cell? ⟨gb246, 6, none⟩ = some (.int .i64 ((rd_T23 l0 x10_1).f6)) := (blk_cell BK246.out 6).trans rfl
                have hfz41_0 := blk_frozen BK246.out 0
                have hfz41_1 := blk_frozen BK246.out 1
                have hfz41_2 := blk_frozen BK246.out 2
                have hfz41_3 := blk_frozen BK246.out 3
                have hfz41_4 := blk_frozen BK246.out 4
                have hfz41_5 := blk_frozen BK246.out 5
                have hfz41_6 := blk_frozen BK246.out 6
                have hnb42 := NB244_243.out
                have hnc42 := NB243_244.out
                have hcz43_0 : w40.cell? ⟨gb244, 0, none⟩ = some (.int .i64 x245000_1) := (blk_cell BK244.out 0).trans rfl
                have hcz43_1 : w40.cell? ⟨gb244, 1, none⟩ = some (.int .i64 x245001_1) := (blk_cell BK244.out 1).trans rfl
                have hcz43_2 : w40.cell? ⟨gb244, 2, none⟩ = some (.int .i64 x245002_1) := (blk_cell BK244.out 2).trans rfl
                have hcz43_3 : w40.cell? ⟨gb244, 3, none⟩ = some (.int .i64 x245003_1) := (blk_cell BK244.out 3).trans rfl
                have hcz43_4 : w40.cell? ⟨gb244, 4, none⟩ = some (.int .i64 x245004_1) := (blk_cell BK244.out 4).trans rfl
                have hcz43_5 : w40.cell? ⟨gb244, 5, none⟩ = some (.int .i64 x245005_1) := (blk_cell BK244.out 5).trans rfl
                have hcz43_6 : w40.cell? ⟨gb244, 6, none⟩ = some (.int .i64 x245006_1) := (blk_cell BK244.out 6).trans rfl
                have hfz43_0 := blk_frozen BK244.out 0
                have hfz43_1 := blk_frozen BK244.out 1
                have hfz43_2 := blk_frozen BK244.out 2
                have hfz43_3 := blk_frozen BK244.out 3
                have hfz43_4 := blk_frozen BK244.out 4
                have hfz43_5 := blk_frozen BK244.out 5
                have hfz43_6 := blk_frozen BK244.out 6
                try go_wp2
                go_roundg k1
                case measure => have := HK1.out; omega
                case rel => exact ⟨(true), (wrap64 (x10_1 + 1)), ((rd_T23 l0 x10_1).f0), ((rd_T23 l0 x10_1).f1), ((rd_T23 l0 x10_1).f2), ((rd_T23 l0 x10_1).f3), ((rd_T23 l0 x10_1).f4), ((rd_T23 l0 x10_1).f5), ((rd_T23 l0 x10_1).f6), (by first | with_reducible rfl | (simp only [ByteArray.size_append, ByteArray.size_extract, Nat.min_self, Nat.sub_zero, Go.Proofs.Ytooknjpdflokkaa.My.lit_size, List.size_toArray, List.length_cons, List.length_nil, Nat.reduceAdd, Nat.zero_add]; done) | rfl | (simp; done) | (simp [*]; done)), (by first | with_reducible rfl | (simp only [ByteArray.size_append, ByteArray.size_extract, Nat.min_self, Nat.sub_zero, Go.Proofs.Ytooknjpdflokkaa.My.lit_size, List.size_toArray, List.length_cons, List.length_nil, Nat.reduceAdd, Nat.zero_add]; done) | rfl | (simp; done) | (simp [*]; done)), H', ⟨by have := HK1.out; omega⟩, ⟨by (with_reducible repeat (first | refine blk_drewN ?_ _ | refine blk_drew ?_ | refine blk_alloc ?_ _)); refine blk_far ?_ NB243_244.out _; (with_reducible repeat (first | refine blk_drewN ?_ _ | refine blk_drew ?_ | refine blk_alloc ?_ _)); refine blk_far ?_ NB243_244.out _; (with_reducible repeat (first | refine blk_drewN ?_ _ | refine blk_drew ?_ | refine blk_alloc ?_ _)); refine blk_far ?_ NB243_244.out _; (with_reducible repeat (first | refine blk_drewN ?_ _ | refine blk_drew ?_ | refine blk_alloc ?_ _)); refine blk_far ?_ NB243_244.out _; (with_reducible repeat (first | refine blk_drewN ?_ _ | refine blk_drew ?_ | refine blk_alloc ?_ _)); refine blk_far ?_ NB243_244.out _; (with_reducible repeat (first | refine blk_drewN ?_ _ | refine blk_drew ?_ | refine blk_alloc ?_ _)); refine blk_far ?_ NB243_244.out _; (with_reducible repeat (first | refine blk_drewN ?_ _ | refine blk_drew ?_ | refine blk_alloc ?_ _)); refine blk_far ?_ NB243_244.out _; (with_reducible repeat (first | refine blk_drewN ?_ _ | refine blk_drew ?_ | refine blk_alloc ?_ _)); exact BK243.out⟩, ⟨by (with_reducible repeat (first | refine blk_drewN ?_ _ | refine blk_drew ?_ | refine blk_alloc ?_ _)); refine blk_put (cs := #[.int .i64 ((rd_T23 l0 x10_1).f0), .int .i64 ((rd_T23 l0 x10_1).f1), .int .i64 ((rd_T23 l0 x10_1).f2), .int .i64 ((rd_T23 l0 x10_1).f3), .int .i64 ((rd_T23 l0 x10_1).f4), .int .i64 ((rd_T23 l0 x10_1).f5), .int .i64 x245006_1]) ?_ 6 _ rfl; (with_reducible repeat (first | refine blk_drewN ?_ _ | refine blk_drew ?_ | refine blk_alloc ?_ _)); refine blk_put (cs := #[.int .i64 ((rd_T23 l0 x10_1).f0), .int .i64 ((rd_T23 l0 x10_1).f1), .int .i64 ((rd_T23 l0 x10_1).f2), .int .i64 ((rd_T23 l0 x10_1).f3), .int .i64 ((rd_T23 l0 x10_1).f4), .int .i64 x245005_1, .int .i64 x245006_1]) ?_ 5 _ rfl; (with_reducible repeat (first | refine blk_drewN ?_ _ | refine blk_drew ?_ | refine blk_alloc ?_ _)); refine blk_put (cs := #[.int .i64 ((rd_T23 l0 x10_1).f0), .int .i64 ((rd_T23 l0 x10_1).f1), .int .i64 ((rd_T23 l0 x10_1).f2), .int .i64 ((rd_T23 l0 x10_1).f3), .int .i64 x245004_1, .int .i64 x245005_1, .int .i64 x245006_1]) ?_ 4 _ rfl; (with_reducible repeat (first | refine blk_drewN ?_ _ | refine blk_drew ?_ | refine blk_alloc ?_ _)); refine blk_put (cs := #[.int .i64 ((rd_T23 l0 x10_1).f0), .int .i64 ((rd_T23 l0 x10_1).f1), .int .i64 ((rd_T23 l0 x10_1).f2), .int .i64 x245003_1, .int .i64 x245004_1, .int .i64 x245005_1, .int .i64 x245006_1]) ?_ 3 _ rfl; (with_reducible repeat (first | refine blk_drewN ?_ _ | refine blk_drew ?_ | refine blk_alloc ?_ _)); refine blk_put (cs := #[.int .i64 ((rd_T23 l0 x10_1).f0), .int .i64 ((rd_T23 l0 x10_1).f1), .int .i64 x245002_1, .int .i64 x245003_1, .int .i64 x245004_1, .int .i64 x245005_1, .int .i64 x245006_1]) ?_ 2 _ rfl; (with_reducible repeat (first | refine blk_drewN ?_ _ | refine blk_drew ?_ | refine blk_alloc ?_ _)); refine blk_put (cs := #[.int .i64 ((rd_T23 l0 x10_1).f0), .int .i64 x245001_1, .int .i64 x245002_1, .int .i64 x245003_1, .int .i64 x245004_1, .int .i64 x245005_1, .int .i64 x245006_1]) ?_ 1 _ rfl; (with_reducible repeat (first | refine blk_drewN ?_ _ | refine blk_drew ?_ | refine blk_alloc ?_ _)); refine blk_put (cs := #[.int .i64 x245000_1, .int .i64 x245001_1, .int .i64 x245002_1, .int .i64 x245003_1, .int .i64 x245004_1, .int .i64 x245005_1, .int .i64 x245006_1]) ?_ 0 _ rfl; (with_reducible repeat (first | refine blk_drewN ?_ _ | refine blk_drew ?_ | refine blk_alloc ?_ _)); exact BK244.out⟩, ⟨by repeat (first | (with_reducible first | exact HB.out | apply below_alloc | apply pw_below_drewN | apply below_drew1 | refine below_set ?_ GE243.out | refine below_set ?_ GE244.out | refine below_set ?_ GE246.out) | exact HB.out)⟩⟩
            · replace c8 := Bool.eq_false_iff.mpr c8
              subst c8
              have H1 : (date_Last.l0 k1 x5_1 l0 (l0.length : Int) (wrap64 (x10_1 + 1)) x245000_1 x245001_1 x245002_1 x245003_1 x245004_1 x245005_1 x245006_1) = some (r1, r2, r3, r4, r5, r6, r7, r8) := by rw [if_neg (show ¬ (false = true) by decide)] at H; exact H
              clear H
              have H := H1
              clear H1
              have H' := Aside0.mk H
              clear H
              have p245 : 0 ≤ (x10_1 : Int) := of_decide_eq_true (by first | (with_reducible assumption) | assumption)
              have q245 : x10_1 < (l0.length : Int) := of_decide_eq_true (by first | (with_reducible assumption) | assumption)
              obtain ⟨ad245, e245, hx245_0, hx245_1, hx245_2, hx245_3, hx245_4, hx245_5, hx245_6⟩ := at_T23 HR0.out x10_1 p245 q245
              cases e245
              replace hx245_0 := (HB.out.cell (World.block_lt_of_cell? w _ hx245_0)).trans hx245_0
              replace hx245_1 := (HB.out.cell (World.block_lt_of_cell? w _ hx245_1)).trans hx245_1
              replace hx245_2 := (HB.out.cell (World.block_lt_of_cell? w _ hx245_2)).trans hx245_2
              replace hx245_3 := (HB.out.cell (World.block_lt_of_cell? w _ hx245_3)).trans hx245_3
              replace hx245_4 := (HB.out.cell (World.block_lt_of_cell? w _ hx245_4)).trans hx245_4
              replace hx245_5 := (HB.out.cell (World.block_lt_of_cell? w _ hx245_5)).trans hx245_5
              replace hx245_6 := (HB.out.cell (World.block_lt_of_cell? w _ hx245_6)).trans hx245_6
              replace p245 := eq_true p245
              replace q245 := eq_true q245
              try go_wp2_with (first | ((with_reducible refine gate_dst (N := 7) rfl ?_); refine box_event ?hg (N := 7) ?hd (cs := #[.int .i64 0, .int .i64 0, .int .i64 0, .int .i64 0, .int .i64 0, .int .i64 0, .int .i64 0]) (t := 23) ?hr ?_; (case hd => rfl); (case hg => rfl); (case hr => first | (go_simp; done) | (go_simp; rfl)); intro gb246 hg w44 hbox hb; have n0_ := Aside0.mk (blk_below (g := gb243) (o := .cells #[.int .i64 0, .int .i64 0, .int .i64 0, .int .i64 0, .int .i64 0, .int .i64 0, .int .i64 0] 23 (0, 0)) (by (with_reducible repeat (first | refine blk_drewN ?_ _ | refine blk_drew ?_ | refine blk_alloc ?_ _)); exact BK243.out) hb); have n1_ := Aside0.mk (blk_below (g := gb244) (o := .cells #[.int .i64 x245000_1, .int .i64 x245001_1, .int .i64 x245002_1, .int .i64 x245003_1, .int .i64 x245004_1, .int .i64 x245005_1, .int .i64 x245006_1] 23 (0, 0)) (by (with_reducible repeat (first | refine blk_drewN ?_ _ | refine blk_drew ?_ | refine blk_alloc ?_ _)); exact BK244.out) hb); have n2_ := Aside0.mk (below_step (by repeat (first | (with_reducible first | exact HB.out | apply below_alloc | apply pw_below_drewN | apply below_drew1 | refine below_set ?_ GE243.out | refine below_set ?_ GE244.out) | exact HB.out)) hb); have n3_ := Aside0.mk (hbox); have n4_ := Aside0.mk ((by rw [hg]; exact (below_size (by repeat (first | (with_reducible first | exact HB.out | apply below_alloc | apply pw_below_drewN | apply below_drew1 | refine below_set ?_ GE243.out | refine below_set ?_ GE244.out) | exact HB.out))) : w.heap.size ≤ gb246)); have n5_ := Aside0.mk ((by rw [hg]; exact (below_size (by repeat (first | (with_reducible first | exact HB.out | apply below_alloc | apply pw_below_drewN | apply below_drew1 | refine below_set ?_ GE243.out | refine below_set ?_ GE244.out) | exact HB.out))) : w.heap.size ≤ gb246)); have n6_ := Aside0.mk ((by rw [hg]; exact Nat.ne_of_lt (blk_lt (g := gb243) (o := .cells #[.int .i64 0, .int .i64 0, .int .i64 0, .int .i64 0, .int .i64 0, .int .i64 0, .int .i64 0] 23 (0, 0)) (by (with_reducible repeat (first | refine blk_drewN ?_ _ | refine blk_drew ?_ | refine blk_alloc ?_ _)); exact BK243.out)) : gb243 ≠ gb246)); have n7_ := Aside0.mk ((by rw [hg]; exact Nat.ne_of_gt (blk_lt (g := gb243) (o := .cells #[.int .i64 0, .int .i64 0, .int .i64 0, .int .i64 0, .int .i64 0, .int .i64 0, .int .i64 0] 23 (0, 0)) (by (with_reducible repeat (first | refine blk_drewN ?_ _ | refine blk_drew ?_ | refine blk_alloc ?_ _)); exact BK243.out)) : gb246 ≠ gb243)); have n8_ := Aside0.mk ((by rw [hg]; exact Nat.ne_of_lt (blk_lt (g := gb244) (o := .cells #[.int .i64 x245000_1, .int .i64 x245001_1, .int .i64 x245002_1, .int .i64 x245003_1, .int .i64 x245004_1, .int .i64 x245005_1, .int .i64 x245006_1] 23 (0, 0)) (by (with_reducible repeat (first | refine blk_drewN ?_ _ | refine blk_drew ?_ | refine blk_alloc ?_ _)); exact BK244.out)) : gb244 ≠ gb246)); have n9_ := Aside0.mk ((by rw [hg]; exact Nat.ne_of_gt (blk_lt (g := gb244) (o := .cells #[.int .i64 x245000_1, .int .i64 x245001_1, .int .i64 x245002_1, .int .i64 x245003_1, .int .i64 x245004_1, .int .i64 x245005_1, .int .i64 x245006_1] 23 (0, 0)) (by (with_reducible repeat (first | refine blk_drewN ?_ _ | refine blk_drew ?_ | refine blk_alloc ?_ _)); exact BK244.out)) : gb246 ≠ gb244)); clear BK243; clear BK244; clear HB; have BK243 := n0_; have BK244 := n1_; have HB := n2_; have BK246 := n3_; have GW246 := n4_; have GE246 := n5_; have NB243_246 := n6_; have NB246_243 := n7_; have NB244_246 := n8_; have NB246_244 := n9_; clear n0_ n1_ n2_ n3_ n4_ n5_ n6_ n7_ n8_ n9_; clear hb hbox hg; have hnb45 := NB246_243.out; have hnc45 := NB243_246.out; have hnb46 := NB246_244.out; have hnc46 := NB244_246.out; have hcz47_0 : w44.cell? ⟨gb246, 0, none⟩ = some (.int .i64 0) := (blk_cell BK246.out 0).trans rfl; have hcz47_1 : w44.cell? ⟨gb246, 1, none⟩ = some (.int .i64 0) := (blk_cell BK246.out 1).trans rfl; have hcz47_2 : w44.cell? ⟨gb246, 2, none⟩ = some (.int .i64 0) := (blk_cell BK246.out 2).trans rfl; have hcz47_3 : w44.cell? ⟨gb246, 3, none⟩ = some (.int .i64 0) := (blk_cell BK246.out 3).trans rfl; have hcz47_4 : w44.cell? ⟨gb246, 4, none⟩ = some (.int .i64 0) := (blk_cell BK246.out 4).trans rfl; have hcz47_5 : w44.cell? ⟨gb246, 5, none⟩ = some (.int .i64 0) := (blk_cell BK246.out 5).trans rfl; have hcz47_6 : w44.cell? ⟨gb246, 6, none⟩ = some (.int .i64 0) := (blk_cell BK246.out 6).trans rfl; have hfz47_0 := blk_frozen BK246.out 0; have hfz47_1 := blk_frozen BK246.out 1; have hfz47_2 := blk_frozen BK246.out 2; have hfz47_3 := blk_frozen BK246.out 3; have hfz47_4 := blk_frozen BK246.out 4; have hfz47_5 := blk_frozen BK246.out 5; have hfz47_6 := blk_frozen BK246.out 6))
              have n0_ : Aside0 ((((((((w44.setCell ⟨gb246, 0, none⟩ (.int .i64 ((rd_T23 l0 x10_1).f0))).setCell ⟨gb246, 1, none⟩ (.int .i64 ((rd_T23 l0 x10_1).f1))).setCell ⟨gb246, 2, none⟩ (.int .i64 ((rd_T23 l0 x10_1).f2))).setCell ⟨gb246, 3, none⟩ (.int .i64 ((rd_T23 l0 x10_1).f3))).setCell ⟨gb246, 4, none⟩ (.int .i64 ((rd_T23 l0 x10_1).f4))).setCell ⟨gb246, 5, none⟩ (.int .i64 ((rd_T23 l0 x10_1).f5))).setCell ⟨gb246, 6, none⟩ (.int .i64 ((rd_T23 l0 x10_1).f6))).heap[gb243]? = some (.cells #[.int .i64 0, .int .i64 0, .int .i64 0, .int .i64 0, .int .i64 0, .int .i64 0, .int .i64 0] 23 (0, 0))) := ⟨by (with_reducible repeat (first | refine blk_drewN ?_ _ | refine blk_drew ?_ | refine blk_alloc ?_ _)); refine blk_far ?_ NB243_246.out _; (with_reducible repeat (first | refine blk_drewN ?_ _ | refine blk_drew ?_ | refine blk_alloc ?_ _)); refine blk_far ?_ NB243_246.out _; (with_reducible repeat (first | refine blk_drewN ?_ _ | refine blk_drew ?_ | refine blk_alloc ?_ _)); refine blk_far ?_ NB243_246.out _; (with_reducible repeat (first | refine blk_drewN ?_ _ | refine blk_drew ?_ | refine blk_alloc ?_ _)); refine blk_far ?_ NB243_246.out _; (with_reducible repeat (first | refine blk_drewN ?_ _ | refine blk_drew ?_ | refine blk_alloc ?_ _)); refine blk_far ?_ NB243_246.out _; (with_reducible repeat (first | refine blk_drewN ?_ _ | refine blk_drew ?_ | refine blk_alloc ?_ _)); refine blk_far ?_ NB243_246.out _; (with_reducible repeat (first | refine blk_drewN ?_ _ | refine blk_drew ?_ | refine blk_alloc ?_ _)); refine blk_far ?_ NB243_246.out _; (with_reducible repeat (first | refine blk_drewN ?_ _ | refine blk_drew ?_ | refine blk_alloc ?_ _)); exact BK243.out⟩
              have n1_ : Aside0 ((((((((w44.setCell ⟨gb246, 0, none⟩ (.int .i64 ((rd_T23 l0 x10_1).f0))).setCell ⟨gb246, 1, none⟩ (.int .i64 ((rd_T23 l0 x10_1).f1))).setCell ⟨gb246, 2, none⟩ (.int .i64 ((rd_T23 l0 x10_1).f2))).setCell ⟨gb246, 3, none⟩ (.int .i64 ((rd_T23 l0 x10_1).f3))).setCell ⟨gb246, 4, none⟩ (.int .i64 ((rd_T23 l0 x10_1).f4))).setCell ⟨gb246, 5, none⟩ (.int .i64 ((rd_T23 l0 x10_1).f5))).setCell ⟨gb246, 6, none⟩ (.int .i64 ((rd_T23 l0 x10_1).f6))).heap[gb244]? = some (.cells #[.int .i64 x245000_1, .int .i64 x245001_1, .int .i64 x245002_1, .int .i64 x245003_1, .int .i64 x245004_1, .int .i64 x245005_1, .int .i64 x245006_1] 23 (0, 0))) := ⟨by (with_reducible repeat (first | refine blk_drewN ?_ _ | refine blk_drew ?_ | refine blk_alloc ?_ _)); refine blk_far ?_ NB244_246.out _; (with_reducible repeat (first | refine blk_drewN ?_ _ | refine blk_drew ?_ | refine blk_alloc ?_ _)); refine blk_far ?_ NB244_246.out _; (with_reducible repeat (first | refine blk_drewN ?_ _ | refine blk_drew ?_ | refine blk_alloc ?_ _)); refine blk_far ?_ NB244_246.out _; (with_reducible repeat (first | refine blk_drewN ?_ _ | refine blk_drew ?_ | refine blk_alloc ?_ _)); refine blk_far ?_ NB244_246.out _; (with_reducible repeat (first | refine blk_drewN ?_ _ | refine blk_drew ?_ | refine blk_alloc ?_ _)); refine blk_far ?_ NB244_246.out _; (with_reducible repeat (first | refine blk_drewN ?_ _ | refine blk_drew ?_ | refine blk_alloc ?_ _)); refine blk_far ?_ NB244_246.out _; (with_reducible repeat (first | refine blk_drewN ?_ _ | refine blk_drew ?_ | refine blk_alloc ?_ _)); refine blk_far ?_ NB244_246.out _; (with_reducible repeat (first | refine blk_drewN ?_ _ | refine blk_drew ?_ | refine blk_alloc ?_ _)); exact BK244.out⟩
              have n2_ : Aside0 ((((((((w44.setCell ⟨gb246, 0, none⟩ (.int .i64 ((rd_T23 l0 x10_1).f0))).setCell ⟨gb246, 1, none⟩ (.int .i64 ((rd_T23 l0 x10_1).f1))).setCell ⟨gb246, 2, none⟩ (.int .i64 ((rd_T23 l0 x10_1).f2))).setCell ⟨gb246, 3, none⟩ (.int .i64 ((rd_T23 l0 x10_1).f3))).setCell ⟨gb246, 4, none⟩ (.int .i64 ((rd_T23 l0 x10_1).f4))).setCell ⟨gb246, 5, none⟩ (.int .i64 ((rd_T23 l0 x10_1).f5))).setCell ⟨gb246, 6, none⟩ (.int .i64 ((rd_T23 l0 x10_1).f6))).heap[gb246]? = some (.cells #[.int .i64 ((rd_T23 l0 x10_1).f0), .int .i64 ((rd_T23 l0 x10_1).f1), .int .i64 ((rd_T23 l0 x10_1).f2), .int .i64 ((rd_T23 l0 x10_1).f3), .int .i64 ((rd_T23 l0 x10_1).f4), .int .i64 ((rd_T23 l0 x10_1).f5), .int .i64 ((rd_T23 l0 x10_1).f6)] 23 (0, 0))) := ⟨by (with_reducible repeat (first | refine blk_drewN ?_ _ | refine blk_drew ?_ | refine blk_alloc ?_ _)); refine blk_put (cs := #[.int .i64 ((rd_T23 l0 x10_1).f0), .int .i64 ((rd_T23 l0 x10_1).f1), .int .i64 ((rd_T23 l0 x10_1).f2), .int .i64 ((rd_T23 l0 x10_1).f3), .int .i64 ((rd_T23 l0 x10_1).f4), .int .i64 ((rd_T23 l0 x10_1).f5), .int .i64 0]) ?_ 6 _ rfl; (with_reducible repeat (first | refine blk_drewN ?_ _ | refine blk_drew ?_ | refine blk_alloc ?_ _)); refine blk_put (cs := #[.int .i64 ((rd_T23 l0 x10_1).f0), .int .i64 ((rd_T23 l0 x10_1).f1), .int .i64 ((rd_T23 l0 x10_1).f2), .int .i64 ((rd_T23 l0 x10_1).f3), .int .i64 ((rd_T23 l0 x10_1).f4), .int .i64 0, .int .i64 0]) ?_ 5 _ rfl; (with_reducible repeat (first | refine blk_drewN ?_ _ | refine blk_drew ?_ | refine blk_alloc ?_ _)); refine blk_put (cs := #[.int .i64 ((rd_T23 l0 x10_1).f0), .int .i64 ((rd_T23 l0 x10_1).f1), .int .i64 ((rd_T23 l0 x10_1).f2), .int .i64 ((rd_T23 l0 x10_1).f3), .int .i64 0, .int .i64 0, .int .i64 0]) ?_ 4 _ rfl; (with_reducible repeat (first | refine blk_drewN ?_ _ | refine blk_drew ?_ | refine blk_alloc ?_ _)); refine blk_put (cs := #[.int .i64 ((rd_T23 l0 x10_1).f0), .int .i64 ((rd_T23 l0 x10_1).f1), .int .i64 ((rd_T23 l0 x10_1).f2), .int .i64 0, .int .i64 0, .int .i64 0, .int .i64 0]) ?_ 3 _ rfl; (with_reducible repeat (first | refine blk_drewN ?_ _ | refine blk_drew ?_ | refine blk_alloc ?_ _)); refine blk_put (cs := #[.int .i64 ((rd_T23 l0 x10_1).f0), .int .i64 ((rd_T23 l0 x10_1).f1), .int .i64 0, .int .i64 0, .int .i64 0, .int .i64 0, .int .i64 0]) ?_ 2 _ rfl; (with_reducible repeat (first | refine blk_drewN ?_ _ | refine blk_drew ?_ | refine blk_alloc ?_ _)); refine blk_put (cs := #[.int .i64 ((rd_T23 l0 x10_1).f0), .int .i64 0, .int .i64 0, .int .i64 0, .int .i64 0, .int .i64 0, .int .i64 0]) ?_ 1 _ rfl; (with_reducible repeat (first | refine blk_drewN ?_ _ | refine blk_drew ?_ | refine blk_alloc ?_ _)); refine blk_put (cs := #[.int .i64 0, .int .i64 0, .int .i64 0, .int .i64 0, .int .i64 0, .int .i64 0, .int .i64 0]) ?_ 0 _ rfl; (with_reducible repeat (first | refine blk_drewN ?_ _ | refine blk_drew ?_ | refine blk_alloc ?_ _)); exact BK246.out⟩
              have n3_ : Aside0 (Below w.heap.size w (((((((w44.setCell ⟨gb246, 0, none⟩ (.int .i64 ((rd_T23 l0 x10_1).f0))).setCell ⟨gb246, 1, none⟩ (.int .i64 ((rd_T23 l0 x10_1).f1))).setCell ⟨gb246, 2, none⟩ (.int .i64 ((rd_T23 l0 x10_1).f2))).setCell ⟨gb246, 3, none⟩ (.int .i64 ((rd_T23 l0 x10_1).f3))).setCell ⟨gb246, 4, none⟩ (.int .i64 ((rd_T23 l0 x10_1).f4))).setCell ⟨gb246, 5, none⟩ (.int .i64 ((rd_T23 l0 x10_1).f5))).setCell ⟨gb246, 6, none⟩ (.int .i64 ((rd_T23 l0 x10_1).f6)))) := ⟨by repeat (first | (with_reducible first | exact HB.out | apply below_alloc | apply pw_below_drewN | apply below_drew1 | refine below_set ?_ GE243.out | refine below_set ?_ GE244.out | refine below_set ?_ GE246.out) | exact HB.out)⟩
              (try clear BK243)
              (try clear BK244)
              (try clear BK246)
              (try clear HB)
              generalize (((((((w44.setCell ⟨gb246, 0, none⟩ (.int .i64 ((rd_T23 l0 x10_1).f0))).setCell ⟨gb246, 1, none⟩ (.int .i64 ((rd_T23 l0 x10_1).f1))).setCell ⟨gb246, 2, none⟩ (.int .i64 ((rd_T23 l0 x10_1).f2))).setCell ⟨gb246, 3, none⟩ (.int .i64 ((rd_T23 l0 x10_1).f3))).setCell ⟨gb246, 4, none⟩ (.int .i64 ((rd_T23 l0 x10_1).f4))).setCell ⟨gb246, 5, none⟩ (.int .i64 ((rd_T23 l0 x10_1).f5))).setCell ⟨gb246, 6, none⟩ (.int .i64 ((rd_T23 l0 x10_1).f6))) = w48 at n0_ n1_ n2_ n3_ ⊢
              have BK243 := n0_
              have BK244 := n1_
              have BK246 := n2_
              have HB := n3_
              clear n0_ n1_ n2_ n3_
              have n0_ := Aside0.mk (blk_drew BK243.out)
              have n1_ := Aside0.mk (blk_drew BK244.out)
              have n2_ := Aside0.mk (blk_drew BK246.out)
              have n3_ := Aside0.mk (below_drew1 HB.out)
              clear BK243
              clear BK244
              clear BK246
              clear HB
              have BK243 := n0_
              have BK244 := n1_
              have BK246 := n2_
              have HB := n3_
              clear n0_ n1_ n2_ n3_
              refine start_ (n := 13) (S := fun w' => w'.cell? ⟨gb246, 0, none⟩ = some (.int .i64 ((rd_T23 l0 x10_1).f0)) ∧ w'.cell? ⟨gb246, 1, none⟩ = some (.int .i64 ((rd_T23 l0 x10_1).f1)) ∧ w'.cell? ⟨gb246, 2, none⟩ = some (.int .i64 ((rd_T23 l0 x10_1).f2)) ∧ w'.cell? ⟨gb246, 3, none⟩ = some (.int .i64 ((rd_T23 l0 x10_1).f3)) ∧ w'.cell? ⟨gb246, 4, none⟩ = some (.int .i64 ((rd_T23 l0 x10_1).f4)) ∧ w'.cell? ⟨gb246, 5, none⟩ = some (.int .i64 ((rd_T23 l0 x10_1).f5)) ∧ w'.cell? ⟨gb246, 6, none⟩ = some (.int .i64 ((rd_T23 l0 x10_1).f6))) (ds := []) #[false, false, false, false, false, false, false, false, false, false, false, false, false] (by kernel_rfl) rfl rfl ⟨(blk_cell BK246.out 0).trans rfl, (blk_cell BK246.out 1).trans rfl, (blk_cell BK246.out 2).trans rfl, (blk_cell BK246.out 3).trans rfl, (blk_cell BK246.out 4).trans rfl, (blk_cell BK246.out 5).trans rfl, (blk_cell BK246.out 6).trans rfl⟩ (fun hHeld => ?_); refine with_tabW date_Last.tab6 date_Last.bits6 (fun HT_ HW_ => ?_)
              generalize w48.drew = w49 at BK243 BK244 BK246 HB hHeld ⊢
              refine take_ (i := 0) (N := some 14) (v := ?_) (a' := ?_) #[true, false, false, false, false, false, false, false, false, false, false, false, false] rfl rfl (take_ofW HT_.out HW_.out (by kernel_rfl)) (fun _ _ _ h => h) (Or.inl ⟨by rfl, ?_⟩) hHeld ?_ ?_
              rotate_left
              · rintro w' ⟨s0, s1, s2, s3, s4, s5, s6⟩
                go_simp
                with_reducible rfl
              rotate_left
              · simp only [Act.put, List.setIfInBounds_toArray, List.set_cons_zero, List.set_cons_succ, i64_w, i32_w]
                rfl
              refine one_ (i := 1) (N := some 15) #[true, true, false, false, false, false, false, false, false, false, false, false, false] rfl rfl (one_of HT_.out (by kernel_rfl)) (by decide) (fun K hK => ?_)
              refine goes_ Try.func16 (by kernel_rfl) rfl #[.agg #[.int .i64 ((rd_T23 l0 x10_1).f0), .int .i64 ((rd_T23 l0 x10_1).f1), .int .i64 ((rd_T23 l0 x10_1).f2), .int .i64 ((rd_T23 l0 x10_1).f3), .int .i64 ((rd_T23 l0 x10_1).f4), .int .i64 ((rd_T23 l0 x10_1).f5), .int .i64 ((rd_T23 l0 x10_1).f6)]] (by rfl) rfl rfl (by (try simp only [List.map_toArray, List.map_cons, List.map_nil]); first | done | rfl | (simp only [List.length_drop, List.length_take]; rfl)) ?_
              with_reducible refine (date_Right.calls k1 ((rd_T23 l0 x10_1).f0) ((rd_T23 l0 x10_1).f1) ((rd_T23 l0 x10_1).f2) ((rd_T23 l0 x10_1).f3) ((rd_T23 l0 x10_1).f4) ((rd_T23 l0 x10_1).f5) ((rd_T23 l0 x10_1).f6) false _ A7.out).mono ?_
              rintro e w50 ⟨rfl, hb⟩
              refine ⟨_, rfl, ?_⟩
              have n0_ := Aside0.mk (blk_below (g := gb243) (o := .cells #[.int .i64 0, .int .i64 0, .int .i64 0, .int .i64 0, .int .i64 0, .int .i64 0, .int .i64 0] 23 (0, 0)) (by (with_reducible repeat (first | refine blk_drewN ?_ _ | refine blk_drew ?_ | refine blk_alloc ?_ _)); exact BK243.out) hb)
              have n1_ := Aside0.mk (blk_below (g := gb244) (o := .cells #[.int .i64 x245000_1, .int .i64 x245001_1, .int .i64 x245002_1, .int .i64 x245003_1, .int .i64 x245004_1, .int .i64 x245005_1, .int .i64 x245006_1] 23 (0, 0)) (by (with_reducible repeat (first | refine blk_drewN ?_ _ | refine blk_drew ?_ | refine blk_alloc ?_ _)); exact BK244.out) hb)
              have n2_ := Aside0.mk (blk_below (g := gb246) (o := .cells #[.int .i64 ((rd_T23 l0 x10_1).f0), .int .i64 ((rd_T23 l0 x10_1).f1), .int .i64 ((rd_T23 l0 x10_1).f2), .int .i64 ((rd_T23 l0 x10_1).f3), .int .i64 ((rd_T23 l0 x10_1).f4), .int .i64 ((rd_T23 l0 x10_1).f5), .int .i64 ((rd_T23 l0 x10_1).f6)] 23 (0, 0)) (by (with_reducible repeat (first | refine blk_drewN ?_ _ | refine blk_drew ?_ | refine blk_alloc ?_ _)); exact BK246.out) hb)
              have n3_ := Aside0.mk (below_step (by repeat (first | (with_reducible first | exact HB.out | apply below_alloc | apply pw_below_drewN | apply below_drew1 | refine below_set ?_ GE243.out | refine below_set ?_ GE244.out | refine below_set ?_ GE246.out) | exact HB.out)) hb)
              clear BK243
              clear BK244
              clear BK246
              clear HB
              have BK243 := n0_
              have BK244 := n1_
              have BK246 := n2_
              have HB := n3_
              clear n0_ n1_ n2_ n3_
              (try clear hb)
              (try clear hb2)
              (try clear hk)
              (try clear hi)
              refine hK.out _ _ ⟨(blk_cell BK246.out 0).trans rfl, (blk_cell BK246.out 1).trans rfl, (blk_cell BK246.out 2).trans rfl, (blk_cell BK246.out 3).trans rfl, (blk_cell BK246.out 4).trans rfl, (blk_cell BK246.out 5).trans rfl, (blk_cell BK246.out 6).trans rfl⟩ (fun hHeld => ?_)
              clear hK K
              refine norm_ (a' := ?_) ?_ ?_
              rotate_left
              · show Act.put _ (some 15) _ = _
                simp only [Act.put, List.setIfInBounds_toArray, List.set_cons_zero, List.set_cons_succ, i64_w, i32_w]
                rfl
              refine pure_ (i := 2) (N := some 16) (v := ?_) (a' := ?_) #[true, true, true, false, false, false, false, false, false, false, false, false, false] rfl rfl (any_of HT_.out (by kernel_rfl)) (fun _ _ _ h => h) (Or.inl ⟨by rfl, ?_⟩) ?_ ?_
              rotate_left
              · intro w'
                go_simp
                with_reducible rfl
              rotate_left
              · simp only [Act.put, List.setIfInBounds_toArray, List.set_cons_zero, List.set_cons_succ, i64_w, i32_w]
                rfl
              refine pure_ (i := 3) (N := some 17) (v := undef) (a' := ?_) #[true, true, true, true, false, false, false, false, false, false, false, false, false] rfl rfl (any_of HT_.out (by kernel_rfl)) (fun _ _ _ h => h) (Or.inr ⟨by rfl, rfl⟩) ?_ ?_
              rotate_left
              · simp only [Act.put, List.setIfInBounds_toArray, List.set_cons_zero, List.set_cons_succ, i64_w, i32_w]
                rfl
              refine pure_ (i := 4) (N := some 18) (v := undef) (a' := ?_) #[true, true, true, true, true, false, false, false, false, false, false, false, false] rfl rfl (any_of HT_.out (by kernel_rfl)) (fun _ _ _ h => h) (Or.inr ⟨by rfl, rfl⟩) ?_ ?_
              rotate_left
              · simp only [Act.put, List.setIfInBounds_toArray, List.set_cons_zero, List.set_cons_succ, i64_w, i32_w]
                rfl
              refine pure_ (i := 5) (N := some 19) (v := undef) (a' := ?_) #[true, true, true, true, true, true, false, false, false, false, false, false, false] rfl rfl (any_of HT_.out (by kernel_rfl)) (fun _ _ _ h => h) (Or.inr ⟨by rfl, rfl⟩) ?_ ?_
              rotate_left
              · simp only [Act.put, List.setIfInBounds_toArray, List.set_cons_zero, List.set_cons_succ, i64_w, i32_w]
                rfl
              refine pure_ (i := 6) (N := some 20) (v := undef) (a' := ?_) #[true, true, true, true, true, true, true, false, false, false, false, false, false] rfl rfl (any_of HT_.out (by kernel_rfl)) (fun _ _ _ h => h) (Or.inr ⟨by rfl, rfl⟩) ?_ ?_
              rotate_left
              · simp only [Act.put, List.setIfInBounds_toArray, List.set_cons_zero, List.set_cons_succ, i64_w, i32_w]
                rfl
              refine pure_ (i := 7) (N := some 21) (v := undef) (a' := ?_) #[true, true, true, true, true, true, true, true, false, false, false, false, false] rfl rfl (any_of HT_.out (by kernel_rfl)) (fun _ _ _ h => h) (Or.inr ⟨by rfl, rfl⟩) ?_ ?_
              rotate_left
              · simp only [Act.put, List.setIfInBounds_toArray, List.set_cons_zero, List.set_cons_succ, i64_w, i32_w]
                rfl
              refine pure_ (i := 8) (N := some 22) (v := undef) (a' := ?_) #[true, true, true, true, true, true, true, true, true, false, false, false, false] rfl rfl (any_of HT_.out (by kernel_rfl)) (fun _ _ _ h => h) (Or.inr ⟨by rfl, rfl⟩) ?_ ?_
              rotate_left
              · simp only [Act.put, List.setIfInBounds_toArray, List.set_cons_zero, List.set_cons_succ, i64_w, i32_w]
                rfl
              refine pure_ (i := 9) (N := some 23) (v := undef) (a' := ?_) #[true, true, true, true, true, true, true, true, true, true, false, false, false] rfl rfl (any_of HT_.out (by kernel_rfl)) (fun _ _ _ h => h) (Or.inr ⟨by rfl, rfl⟩) ?_ ?_
              rotate_left
              · simp only [Act.put, List.setIfInBounds_toArray, List.set_cons_zero, List.set_cons_succ, i64_w, i32_w]
                rfl
              refine pure_ (i := 10) (N := some 24) (v := undef) (a' := ?_) #[true, true, true, true, true, true, true, true, true, true, true, false, false] rfl rfl (any_of HT_.out (by kernel_rfl)) (fun _ _ _ h => h) (Or.inr ⟨by rfl, rfl⟩) ?_ ?_
              rotate_left
              · simp only [Act.put, List.setIfInBounds_toArray, List.set_cons_zero, List.set_cons_succ, i64_w, i32_w]
                rfl
              refine pure_ (i := 11) (N := some 25) (v := undef) (a' := ?_) #[true, true, true, true, true, true, true, true, true, true, true, true, false] rfl rfl (any_of HT_.out (by kernel_rfl)) (fun _ _ _ h => h) (Or.inr ⟨by rfl, rfl⟩) ?_ ?_
              rotate_left
              · simp only [Act.put, List.setIfInBounds_toArray, List.set_cons_zero, List.set_cons_succ, i64_w, i32_w]
                rfl
              refine pure_ (i := 12) (N := some 26) (v := ?_) (a' := ?_) #[true, true, true, true, true, true, true, true, true, true, true, true, true] rfl rfl (any_of HT_.out (by kernel_rfl)) (fun _ _ _ h => h) (Or.inl ⟨by rfl, ?_⟩) ?_ ?_
              rotate_left
              · intro w'
                go_simp
                with_reducible rfl
              rotate_left
              · simp only [Act.put, List.setIfInBounds_toArray, List.set_cons_zero, List.set_cons_succ, i64_w, i32_w]
                rfl
              refine done_ (done_of HT_.out (by kernel_rfl)) ?_
              try go_wp2
              go_roundg k1
              case measure => have := HK1.out; omega
              case rel => exact ⟨(x5_1), (wrap64 (x10_1 + 1)), (x245000_1), (x245001_1), (x245002_1), (x245003_1), (x245004_1), (x245005_1), (x245006_1), (by first | with_reducible rfl | (simp only [ByteArray.size_append, ByteArray.size_extract, Nat.min_self, Nat.sub_zero, Go.Proofs.Ytooknjpdflokkaa.My.lit_size, List.size_toArray, List.length_cons, List.length_nil, Nat.reduceAdd, Nat.zero_add]; done) | rfl | (simp; done) | (simp [*]; done)), (by first | with_reducible rfl | (simp only [ByteArray.size_append, ByteArray.size_extract, Nat.min_self, Nat.sub_zero, Go.Proofs.Ytooknjpdflokkaa.My.lit_size, List.size_toArray, List.length_cons, List.length_nil, Nat.reduceAdd, Nat.zero_add]; done) | rfl | (simp; done) | (simp [*]; done)), H', ⟨by have := HK1.out; omega⟩, ⟨by (with_reducible repeat (first | refine blk_drewN ?_ _ | refine blk_drew ?_ | refine blk_alloc ?_ _)); exact BK243.out⟩, ⟨by (with_reducible repeat (first | refine blk_drewN ?_ _ | refine blk_drew ?_ | refine blk_alloc ?_ _)); exact BK244.out⟩, ⟨by repeat (first | (with_reducible first | exact HB.out | apply below_alloc | apply pw_below_drewN | apply below_drew1 | refine below_set ?_ GE243.out | refine below_set ?_ GE244.out | refine below_set ?_ GE246.out) | exact HB.out)⟩⟩
          · rw [if_neg c6] at H
            exact absurd H (by simp)
        · rw [if_neg c5] at H
          exact absurd H (by simp)
      · rw [if_neg c4] at H
        have c4b0 : decide (x10_1 < (l0.length : Int)) = false := decide_eq_false c4
        clear c4
        simp only [Option.some.injEq, Prod.mk.injEq] at H
        obtain ⟨rfl, rfl, rfl, rfl, rfl, rfl, rfl, rfl⟩ := H
        have hnb51 := NB244_243.out
        have hnc51 := NB243_244.out
        have hcz52_0 : wr.cell? ⟨gb244, 0, none⟩ = some (.int .i64 x245000_1) := (blk_cell BK244.out 0).trans rfl
        have hcz52_1 : wr.cell? ⟨gb244, 1, none⟩ = some (.int .i64 x245001_1) := (blk_cell BK244.out 1).trans rfl
        have hcz52_2 : wr.cell? ⟨gb244, 2, none⟩ = some (.int .i64 x245002_1) := (blk_cell BK244.out 2).trans rfl
        have hcz52_3 : wr.cell? ⟨gb244, 3, none⟩ = some (.int .i64 x245003_1) := (blk_cell BK244.out 3).trans rfl
        have hcz52_4 : wr.cell? ⟨gb244, 4, none⟩ = some (.int .i64 x245004_1) := (blk_cell BK244.out 4).trans rfl
        have hcz52_5 : wr.cell? ⟨gb244, 5, none⟩ = some (.int .i64 x245005_1) := (blk_cell BK244.out 5).trans rfl
        have hcz52_6 : wr.cell? ⟨gb244, 6, none⟩ = some (.int .i64 x245006_1) := (blk_cell BK244.out 6).trans rfl
        have hfz52_0 := blk_frozen BK244.out 0
        have hfz52_1 := blk_frozen BK244.out 1
        have hfz52_2 := blk_frozen BK244.out 2
        have hfz52_3 := blk_frozen BK244.out 3
        have hfz52_4 := blk_frozen BK244.out 4
        have hfz52_5 := blk_frozen BK244.out 5
        have hfz52_6 := blk_frozen BK244.out 6
        have hcz53_0 : wr.cell? ⟨gb243, 0, none⟩ = some (.int .i64 0) := (blk_cell BK243.out 0).trans rfl
        have hcz53_1 : wr.cell? ⟨gb243, 1, none⟩ = some (.int .i64 0) := (blk_cell BK243.out 1).trans rfl
        have hcz53_2 : wr.cell? ⟨gb243, 2, none⟩ = some (.int .i64 0) := (blk_cell BK243.out 2).trans rfl
        have hcz53_3 : wr.cell? ⟨gb243, 3, none⟩ = some (.int .i64 0) := (blk_cell BK243.out 3).trans rfl
        have hcz53_4 : wr.cell? ⟨gb243, 4, none⟩ = some (.int .i64 0) := (blk_cell BK243.out 4).trans rfl
        have hcz53_5 : wr.cell? ⟨gb243, 5, none⟩ = some (.int .i64 0) := (blk_cell BK243.out 5).trans rfl
        have hcz53_6 : wr.cell? ⟨gb243, 6, none⟩ = some (.int .i64 0) := (blk_cell BK243.out 6).trans rfl
        have hfz53_0 := blk_frozen BK243.out 0
        have hfz53_1 := blk_frozen BK243.out 1
        have hfz53_2 := blk_frozen BK243.out 2
        have hfz53_3 := blk_frozen BK243.out 3
        have hfz53_4 := blk_frozen BK243.out 4
        have hfz53_5 := blk_frozen BK243.out 5
        have hfz53_6 := blk_frozen BK243.out 6
        go_wp2
        refine bodyPost_ret (results_ct rfl _ _ gb243 23 #[.int .i64 x245000_1, .int .i64 x245001_1, .int .i64 x245002_1, .int .i64 x245003_1, .int .i64 x245004_1, .int .i64 x245005_1, .int .i64 x245006_1] (0, 0) _ rfl (by (with_reducible repeat (first | refine blk_drewN ?_ _ | refine blk_drew ?_ | refine blk_alloc ?_ _)); refine blk_put (cs := #[.int .i64 x245000_1, .int .i64 x245001_1, .int .i64 x245002_1, .int .i64 x245003_1, .int .i64 x245004_1, .int .i64 x245005_1, .int .i64 0]) ?_ 6 _ rfl; (with_reducible repeat (first | refine blk_drewN ?_ _ | refine blk_drew ?_ | refine blk_alloc ?_ _)); refine blk_put (cs := #[.int .i64 x245000_1, .int .i64 x245001_1, .int .i64 x245002_1, .int .i64 x245003_1, .int .i64 x245004_1, .int .i64 0, .int .i64 0]) ?_ 5 _ rfl; (with_reducible repeat (first | refine blk_drewN ?_ _ | refine blk_drew ?_ | refine blk_alloc ?_ _)); refine blk_put (cs := #[.int .i64 x245000_1, .int .i64 x245001_1, .int .i64 x245002_1, .int .i64 x245003_1, .int .i64 0, .int .i64 0, .int .i64 0]) ?_ 4 _ rfl; (with_reducible repeat (first | refine blk_drewN ?_ _ | refine blk_drew ?_ | refine blk_alloc ?_ _)); refine blk_put (cs := #[.int .i64 x245000_1, .int .i64 x245001_1, .int .i64 x245002_1, .int .i64 0, .int .i64 0, .int .i64 0, .int .i64 0]) ?_ 3 _ rfl; (with_reducible repeat (first | refine blk_drewN ?_ _ | refine blk_drew ?_ | refine blk_alloc ?_ _)); refine blk_put (cs := #[.int .i64 x245000_1, .int .i64 x245001_1, .int .i64 0, .int .i64 0, .int .i64 0, .int .i64 0, .int .i64 0]) ?_ 2 _ rfl; (with_reducible repeat (first | refine blk_drewN ?_ _ | refine blk_drew ?_ | refine blk_alloc ?_ _)); refine blk_put (cs := #[.int .i64 x245000_1, .int .i64 0, .int .i64 0, .int .i64 0, .int .i64 0, .int .i64 0, .int .i64 0]) ?_ 1 _ rfl; (with_reducible repeat (first | refine blk_drewN ?_ _ | refine blk_drew ?_ | refine blk_alloc ?_ _)); refine blk_put (cs := #[.int .i64 0, .int .i64 0, .int .i64 0, .int .i64 0, .int .i64 0, .int .i64 0, .int .i64 0]) ?_ 0 _ rfl; (with_reducible repeat (first | refine blk_drewN ?_ _ | refine blk_drew ?_ | refine blk_alloc ?_ _)); exact BK243.out) Try.underlying23 rfl (by kernel_rfl)) rfl ?_
        exact ⟨by first | rfl | (simp [errW_none, errW_some] <;> rfl) | (simp [*, errW_none, errW_some] <;> rfl), by repeat (first | (with_reducible first | exact HB.out | apply below_alloc | apply pw_below_drewN | apply below_drew1 | refine below_set ?_ GE243.out | refine below_set ?_ GE244.out) | exact HB.out)⟩
end Go.Proofs.Ytooknjpdflokkaa.PP
