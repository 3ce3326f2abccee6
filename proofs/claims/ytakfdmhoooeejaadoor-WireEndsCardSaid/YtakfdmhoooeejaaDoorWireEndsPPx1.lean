/- YtakfdmhoooeejaaDoorPPx1, as far as WireEnds needs it (prune.py). -/
import Derived.Test.YtakfdmhoooeejaaDoorWireEndsPPx0
namespace Go.Proofs.YtakfdmhoooeejaaDoor.PP
open Go.RowKit Go.Proofs.YtakfdmhoooeejaaDoorW.PrintWords Go.Proofs.YtakfdmhoooeejaaDoorW.PrintLast Go.Proofs.YtakfdmhoooeejaaDoorW.PrintMore
attribute [local go_sem] max2_int min2_int max_two min_two max_three min_three max_four min_four   -- for this text's walks alone
open Go.Proofs.YtakfdmhoooeejaaDoor.My
set_option linter.unusedVariables false
set_option linter.unusedSimpArgs false
mutual
def haversacklaw13_text.l0 : Nat → ByteArray → List (S47) → Int → Int → Option (ByteArray × Bool)
 | 0, _, _, _, _ => none
 | k + 1, x4, x12, x13, x14 => if x14 < x13 then (if 0 ≤ x14 then (if x14 < (x12.length : Int) then (if (((rd_T47 x12 x14).f0).size : Int) > 60000 then (haversacklaw13_text.j1 k x4 x12 x13 x14 true ((rd_T47 x12 x14).f0) ((rd_T47 x12 x14).f1) ((rd_T47 x12 x14).f2)) else (if (((rd_T47 x12 x14).f1).size : Int) > 60000 then (haversacklaw13_text.j1 k x4 x12 x13 x14 true ((rd_T47 x12 x14).f0) ((rd_T47 x12 x14).f1) ((rd_T47 x12 x14).f2)) else (if (((rd_T47 x12 x14).f1).size : Int) > 0 then (if (((rd_T47 x12 x14).f1).size : Int) = 0 then (none) else (if ((rd_T47 x12 x14).f2) > (wrap64 ((60000 : Int) / (((rd_T47 x12 x14).f1).size : Int))) then (haversacklaw13_text.j1 k x4 x12 x13 x14 true ((rd_T47 x12 x14).f0) ((rd_T47 x12 x14).f1) ((rd_T47 x12 x14).f2)) else (haversacklaw13_text.j1 k x4 x12 x13 x14 (decide ((x4.size : Int) > 120000)) ((rd_T47 x12 x14).f0) ((rd_T47 x12 x14).f1) ((rd_T47 x12 x14).f2)))) else (haversacklaw13_text.j1 k x4 x12 x13 x14 (decide ((x4.size : Int) > 120000)) ((rd_T47 x12 x14).f0) ((rd_T47 x12 x14).f1) ((rd_T47 x12 x14).f2))))) else (none)) else (none)) else (some (x4, decide ((x4.size : Int) ≤ 180000)))
def haversacklaw13_text.j1 : Nat → ByteArray → List (S47) → Int → Int → Bool → ByteArray → ByteArray → Int → Option (ByteArray × Bool)
 | 0, _, _, _, _, _, _, _, _ => none
 | k + 1, x4, x12, x13, x14, x47, x103000, x103001, x103002 => if x47 = true then (some ((⟨#[]⟩ : ByteArray), false)) else (if x4.size + x103000.size ≤ 9223372036854775807 then (haversacklaw13_text.l1 k (x4 ++ x103000) (([] : List Int)) 0 x12 x13 x14 x103000 x103001 x103002) else (none))
def haversacklaw13_text.l1 : Nat → ByteArray → List Int → Int → List (S47) → Int → Int → ByteArray → ByteArray → Int → Option (ByteArray × Bool)
 | 0, _, _, _, _, _, _, _, _, _ => none
 | k + 1, x4, x7, x8, x12, x13, x14, x103000, x103001, x103002 => if x8 < x103002 then (if (x103001.size : Int) > 0 then (if x7.length + x103001.size < 140737488355328 then (haversacklaw13_text.l1 k x4 (x7 ++ bytesOf x103001) (wrap64 (x8 + 1)) x12 x13 x14 x103000 x103001 x103002) else (none)) else (if x4.size + (strOfNums x7).size ≤ 9223372036854775807 then (haversacklaw13_text.l0 k (x4 ++ (strOfNums x7)) x12 x13 (wrap64 (x14 + 1))) else (none))) else (if x4.size + (strOfNums x7).size ≤ 9223372036854775807 then (haversacklaw13_text.l0 k (x4 ++ (strOfNums x7)) x12 x13 (wrap64 (x14 + 1))) else (none))
end
def haversacklaw13_text.f (k : Nat) (l0 : List (S47)) : Option (ByteArray × Bool) := if (l0.length : Int) > 60 then (some ((⟨#[]⟩ : ByteArray), false)) else (haversacklaw13_text.l0 k (⟨#[]⟩ : ByteArray) l0 (l0.length : Int) 0)
set_option maxHeartbeats 8000000 in
set_option maxRecDepth 100000 in
theorem haversacklaw13_text.calls (k : Nat) (A0 : Option Addr) (c0 : Nat) (l0 : List (S47)) (r1 : ByteArray) (r2 : Bool) (w : World) (hr0 : Kd.C k47 w A0 l0.length l0) (hc0 : l0.length ≤ c0) (h : haversacklaw13_text.f k l0 = some (r1, r2)) :
  Calls Tryd.prog 8 #[.slice A0 l0.length c0] w fun e w' => e = .returned (.tuple #[.string r1, .bool r2]) ∧ Below w.heap.size w w' := by
 have hu47 := Tryd.underlying47
 have HR0 := Aside0.mk hr0
 have HC0 := Aside0.mk hc0
 clear hr0 hc0
 have HB := Aside0.mk (Below.refl w.heap.size w)
 have H : (if (l0.length : Int) > 60 then (some ((⟨#[]⟩ : ByteArray), false)) else (haversacklaw13_text.l0 k (⟨#[]⟩ : ByteArray) l0 (l0.length : Int) 0)) = some (r1, r2) := h
 clear h
 by_cases c2 : (l0.length : Int) > 60
 ·
  rw [if_pos c2] at H
  have c2b0 : decide (60 < (l0.length : Int)) = true := decide_eq_true c2
  have c2b1 : decide (60 < l0.length) = true := decide_eq_true (by omega)
  clear c2
  simp only [Option.some.injEq, Prod.mk.injEq] at H
  obtain ⟨rfl, rfl⟩ := H
  go_enter Tryd.func8, Tryd.ntmps8
  go_wp2
  repeat (go_quiet (fail); try go_wp2)
  go_ret2
  exact ⟨by first | rfl | (simp [errW_none, errW_some] <;> rfl) | (simp [*, errW_none, errW_some] <;> rfl), by repeat (first | (with_reducible first | exact HB.out | apply below_alloc | apply pw_below_drewN | apply below_drew1) | exact HB.out)⟩
 ·
  rw [if_neg c2] at H
  have c2b0 : decide (60 < (l0.length : Int)) = false := decide_eq_false c2
  have c2b1 : decide (60 < l0.length) = false := decide_eq_false (by omega)
  clear c2
  have H' := Aside0.mk H
  clear H
  go_enter Tryd.func8, Tryd.ntmps8
  go_wp2
  repeat (go_quiet (fail); try go_wp2)
  go_loopg [4, 14] k (fun kq v4 v14 w' => ∃ (x4_1 : ByteArray) (x14_1 : Int), v4 = .string x4_1 ∧ v14 = .int .i64 x14_1 ∧ Aside0 (haversacklaw13_text.l0 kq x4_1 l0 (l0.length : Int) x14_1 = some (r1, r2)) ∧ Aside0 (kq ≤ k) ∧ Aside0 (Below w.heap.size w w'))
  case atStart => exact ⟨((⟨#[]⟩ : ByteArray)), (0), (by first | with_reducible rfl | (simp only [pps, Nat.reduceAdd, Int.toNat_natCast]; done) | rfl | (simp; done) | (simp [*]; done)), (by first | with_reducible rfl | (simp only [pps, Nat.reduceAdd, Int.toNat_natCast]; done) | rfl | (simp; done) | (simp [*]; done)), H', ⟨Nat.le_refl _⟩, ⟨by repeat (first | (with_reducible first | exact HB.out | apply below_alloc | apply pw_below_drewN | apply below_drew1) | exact HB.out)⟩⟩
  case round =>
   clear H'
   try clear c2
   try clear c2b0
   try clear c2b1
   try clear p2
   obtain ⟨x4_1, x14_1, rfl, rfl, HA, HK1, HB⟩ := hrel
   cases gk with
   | zero => exact absurd HA.out (by simp [haversacklaw13_text.l0])
   | succ k1 =>
    have H := HA.out
    clear HA
    simp only [haversacklaw13_text.l0] at H
    by_cases c3 : x14_1 < (l0.length : Int)
    ·
     rw [if_pos c3] at H
     have c3b0 : decide (x14_1 < (l0.length : Int)) = true := decide_eq_true c3
     clear c3
     by_cases c4 : 0 ≤ x14_1
     ·
      rw [if_pos c4] at H
      have c4b0 : decide (0 ≤ x14_1) = true := decide_eq_true c4
      clear c4
      by_cases c5 : x14_1 < (l0.length : Int)
      ·
       rw [if_pos c5] at H
       have c5b0 : decide (x14_1 < (l0.length : Int)) = true := decide_eq_true c5
       clear c5
       have HC6 := Aside0.mk H
       clear H
       have p101 : 0 ≤ (x14_1 : Int) := of_decide_eq_true (by first | (with_reducible assumption) | assumption)
       have q101 : x14_1 < (l0.length : Int) := of_decide_eq_true (by first | (with_reducible assumption) | assumption)
       obtain ⟨ad101, e101, hx101_0, hx101_1, hx101_2⟩ := at_T47 HR0.out x14_1 p101 q101
       cases e101
       replace hx101_0 := (HB.out.cell (World.block_lt_of_cell? w _ hx101_0)).trans hx101_0
       replace hx101_1 := (HB.out.cell (World.block_lt_of_cell? w _ hx101_1)).trans hx101_1
       replace hx101_2 := (HB.out.cell (World.block_lt_of_cell? w _ hx101_2)).trans hx101_2
       replace p101 := eq_true p101
       replace q101 := eq_true q101
       go_upto_region 7 with (first | ((with_reducible refine gate_dst (N := 6) rfl ?_); (try (refine gate_guard (by rfl) ?_; dsimp only)); refine box_event ?hg (N := 6) ?hd (cs := #[.string (⟨#[]⟩ : ByteArray), .string (⟨#[]⟩ : ByteArray), .int .i64 0]) (t := 47) ?hr ?_; (case hd => rfl); (case hg => rfl); (case hr => first | (go_simp; done) | (go_simp; rfl)); intro gb102 hg w7 hbox hb; have n0_ := Aside0.mk (below_step (by repeat (first | (with_reducible first | exact HB.out | apply below_alloc | apply pw_below_drewN | apply below_drew1) | exact HB.out)) hb); have n1_ := Aside0.mk (hbox); have n2_ := Aside0.mk ((by rw [hg]; exact (below_size (by repeat (first | (with_reducible first | exact HB.out | apply below_alloc | apply pw_below_drewN | apply below_drew1) | exact HB.out))) : w.heap.size ≤ gb102)); have n3_ := Aside0.mk ((by rw [hg]; exact (below_size (by repeat (first | (with_reducible first | exact HB.out | apply below_alloc | apply pw_below_drewN | apply below_drew1) | exact HB.out))) : w.heap.size ≤ gb102)); clear HB; have HB := n0_; have BK102 := n1_; have GW102 := n2_; have GE102 := n3_; clear n0_ n1_ n2_ n3_; clear hb hbox hg; have hcz8_0 : w7.cell? ⟨gb102, 0, none⟩ = some (.string (⟨#[]⟩ : ByteArray)) := (blk_cell BK102.out 0).trans rfl; have hcz8_1 : w7.cell? ⟨gb102, 1, none⟩ = some (.string (⟨#[]⟩ : ByteArray)) := (blk_cell BK102.out 1).trans rfl; have hcz8_2 : w7.cell? ⟨gb102, 2, none⟩ = some (.int .i64 0) := (blk_cell BK102.out 2).trans rfl; have hfz8_0 := blk_frozen BK102.out 0; have hfz8_1 := blk_frozen BK102.out 1; have hfz8_2 := blk_frozen BK102.out 2))
       repeat (go_quiet (first | ((with_reducible refine gate_dst (N := 6) rfl ?_); (try (refine gate_guard (by rfl) ?_; dsimp only)); refine box_event ?hg (N := 6) ?hd (cs := #[.string (⟨#[]⟩ : ByteArray), .string (⟨#[]⟩ : ByteArray), .int .i64 0]) (t := 47) ?hr ?_; (case hd => rfl); (case hg => rfl); (case hr => first | (go_simp; done) | (go_simp; rfl)); intro gb102 hg w7 hbox hb; have n0_ := Aside0.mk (below_step (by repeat (first | (with_reducible first | exact HB.out | apply below_alloc | apply pw_below_drewN | apply below_drew1) | exact HB.out)) hb); have n1_ := Aside0.mk (hbox); have n2_ := Aside0.mk ((by rw [hg]; exact (below_size (by repeat (first | (with_reducible first | exact HB.out | apply below_alloc | apply pw_below_drewN | apply below_drew1) | exact HB.out))) : w.heap.size ≤ gb102)); have n3_ := Aside0.mk ((by rw [hg]; exact (below_size (by repeat (first | (with_reducible first | exact HB.out | apply below_alloc | apply pw_below_drewN | apply below_drew1) | exact HB.out))) : w.heap.size ≤ gb102)); clear HB; have HB := n0_; have BK102 := n1_; have GW102 := n2_; have GE102 := n3_; clear n0_ n1_ n2_ n3_; clear hb hbox hg; have hcz8_0 : w7.cell? ⟨gb102, 0, none⟩ = some (.string (⟨#[]⟩ : ByteArray)) := (blk_cell BK102.out 0).trans rfl; have hcz8_1 : w7.cell? ⟨gb102, 1, none⟩ = some (.string (⟨#[]⟩ : ByteArray)) := (blk_cell BK102.out 1).trans rfl; have hcz8_2 : w7.cell? ⟨gb102, 2, none⟩ = some (.int .i64 0) := (blk_cell BK102.out 2).trans rfl; have hfz8_0 := blk_frozen BK102.out 0; have hfz8_1 := blk_frozen BK102.out 1; have hfz8_2 := blk_frozen BK102.out 2)); go_upto_region 7 with (first | ((with_reducible refine gate_dst (N := 6) rfl ?_); (try (refine gate_guard (by rfl) ?_; dsimp only)); refine box_event ?hg (N := 6) ?hd (cs := #[.string (⟨#[]⟩ : ByteArray), .string (⟨#[]⟩ : ByteArray), .int .i64 0]) (t := 47) ?hr ?_; (case hd => rfl); (case hg => rfl); (case hr => first | (go_simp; done) | (go_simp; rfl)); intro gb102 hg w7 hbox hb; have n0_ := Aside0.mk (below_step (by repeat (first | (with_reducible first | exact HB.out | apply below_alloc | apply pw_below_drewN | apply below_drew1) | exact HB.out)) hb); have n1_ := Aside0.mk (hbox); have n2_ := Aside0.mk ((by rw [hg]; exact (below_size (by repeat (first | (with_reducible first | exact HB.out | apply below_alloc | apply pw_below_drewN | apply below_drew1) | exact HB.out))) : w.heap.size ≤ gb102)); have n3_ := Aside0.mk ((by rw [hg]; exact (below_size (by repeat (first | (with_reducible first | exact HB.out | apply below_alloc | apply pw_below_drewN | apply below_drew1) | exact HB.out))) : w.heap.size ≤ gb102)); clear HB; have HB := n0_; have BK102 := n1_; have GW102 := n2_; have GE102 := n3_; clear n0_ n1_ n2_ n3_; clear hb hbox hg; have hcz8_0 : w7.cell? ⟨gb102, 0, none⟩ = some (.string (⟨#[]⟩ : ByteArray)) := (blk_cell BK102.out 0).trans rfl; have hcz8_1 : w7.cell? ⟨gb102, 1, none⟩ = some (.string (⟨#[]⟩ : ByteArray)) := (blk_cell BK102.out 1).trans rfl; have hcz8_2 : w7.cell? ⟨gb102, 2, none⟩ = some (.int .i64 0) := (blk_cell BK102.out 2).trans rfl; have hfz8_0 := blk_frozen BK102.out 0; have hfz8_1 := blk_frozen BK102.out 1; have hfz8_2 := blk_frozen BK102.out 2)))
       (try simp only [Act.put, List.setIfInBounds_toArray, List.set_cons_zero, List.set_cons_succ])
       go_cut [47] (fun v47 wc => ∃ (kq : Nat) (x47_5 : Bool), v47 = .bool x47_5 ∧ Aside0 (haversacklaw13_text.j1 kq x4_1 l0 (l0.length : Int) x14_1 x47_5 ((rd_T47 l0 x14_1).f0) ((rd_T47 l0 x14_1).f1) ((rd_T47 l0 x14_1).f2) = some (r1, r2)) ∧ Aside0 (kq ≤ k1) ∧ Aside0 (wc.heap[gb102]? = some (.cells #[.string ((rd_T47 l0 x14_1).f0), .string ((rd_T47 l0 x14_1).f1), .int .i64 ((rd_T47 l0 x14_1).f2)] 47 (0, 0))) ∧ Aside0 (Below w.heap.size w wc))
       case first =>
        have H := HC6.out
        clear HC6
        by_cases c9 : (((rd_T47 l0 x14_1).f0).size : Int) > 60000
        ·
         rw [if_pos c9] at H
         have c9b0 : decide (60000 < (((rd_T47 l0 x14_1).f0).size : Int)) = true := decide_eq_true c9
         have c9b1 : decide (60000 < ((rd_T47 l0 x14_1).f0).size) = true := decide_eq_true (by omega)
         clear c9
         (first | rw [c9b0] | (simp only [i64_w, i32_w]; rw [c9b0]) | skip)
         have H' := Aside0.mk H
         clear H
         have hcz10_0 : w7.cell? ⟨gb102, 0, none⟩ = some (.string (⟨#[]⟩ : ByteArray)) := (blk_cell BK102.out 0).trans rfl
         have hcz10_1 : w7.cell? ⟨gb102, 1, none⟩ = some (.string (⟨#[]⟩ : ByteArray)) := (blk_cell BK102.out 1).trans rfl
         have hcz10_2 : w7.cell? ⟨gb102, 2, none⟩ = some (.int .i64 0) := (blk_cell BK102.out 2).trans rfl
         have hfz10_0 := blk_frozen BK102.out 0
         have hfz10_1 := blk_frozen BK102.out 1
         have hfz10_2 := blk_frozen BK102.out 2
         go_wp2
         repeat (go_quiet (fail); try go_wp2)
         go_meet
         case rel => exact ⟨_, (true), (by first | with_reducible rfl | (simp only [pps, Nat.reduceAdd, Int.toNat_natCast]; done) | rfl | (simp; done) | (simp [*]; done)), H', ⟨by have := HK1.out; first | omega | exact Nat.le_refl _⟩, ⟨by (with_reducible repeat (first | refine blk_drewN ?_ _ | refine blk_drew ?_ | refine blk_alloc ?_ _)); refine blk_put (cs := #[.string ((rd_T47 l0 x14_1).f0), .string ((rd_T47 l0 x14_1).f1), .int .i64 0]) ?_ 2 _ rfl; (with_reducible repeat (first | refine blk_drewN ?_ _ | refine blk_drew ?_ | refine blk_alloc ?_ _)); refine blk_put (cs := #[.string ((rd_T47 l0 x14_1).f0), .string (⟨#[]⟩ : ByteArray), .int .i64 0]) ?_ 1 _ rfl; (with_reducible repeat (first | refine blk_drewN ?_ _ | refine blk_drew ?_ | refine blk_alloc ?_ _)); refine blk_put (cs := #[.string (⟨#[]⟩ : ByteArray), .string (⟨#[]⟩ : ByteArray), .int .i64 0]) ?_ 0 _ rfl; (with_reducible repeat (first | refine blk_drewN ?_ _ | refine blk_drew ?_ | refine blk_alloc ?_ _)); exact BK102.out⟩, ⟨by repeat (first | (with_reducible first | exact HB.out | apply below_alloc | apply pw_below_drewN | apply below_drew1 | refine below_set ?_ GE102.out) | exact HB.out)⟩⟩
        ·
         rw [if_neg c9] at H
         have c9b0 : decide (60000 < (((rd_T47 l0 x14_1).f0).size : Int)) = false := decide_eq_false c9
         have c9b1 : decide (60000 < ((rd_T47 l0 x14_1).f0).size) = false := decide_eq_false (by omega)
         clear c9
         (first | rw [c9b0] | (simp only [i64_w, i32_w]; rw [c9b0]) | skip)
         by_cases c11 : (((rd_T47 l0 x14_1).f1).size : Int) > 60000
         ·
          rw [if_pos c11] at H
          have c11b0 : decide (60000 < (((rd_T47 l0 x14_1).f1).size : Int)) = true := decide_eq_true c11
          have c11b1 : decide (60000 < ((rd_T47 l0 x14_1).f1).size) = true := decide_eq_true (by omega)
          clear c11
          have H' := Aside0.mk H
          clear H
          have hcz12_0 : w7.cell? ⟨gb102, 0, none⟩ = some (.string (⟨#[]⟩ : ByteArray)) := (blk_cell BK102.out 0).trans rfl
          have hcz12_1 : w7.cell? ⟨gb102, 1, none⟩ = some (.string (⟨#[]⟩ : ByteArray)) := (blk_cell BK102.out 1).trans rfl
          have hcz12_2 : w7.cell? ⟨gb102, 2, none⟩ = some (.int .i64 0) := (blk_cell BK102.out 2).trans rfl
          have hfz12_0 := blk_frozen BK102.out 0
          have hfz12_1 := blk_frozen BK102.out 1
          have hfz12_2 := blk_frozen BK102.out 2
          go_wp2
          repeat (go_quiet (fail); try go_wp2)
          go_meet
          case rel => exact ⟨_, (true), (by first | with_reducible rfl | (simp only [pps, Nat.reduceAdd, Int.toNat_natCast]; done) | rfl | (simp; done) | (simp [*]; done)), H', ⟨by have := HK1.out; first | omega | exact Nat.le_refl _⟩, ⟨by (with_reducible repeat (first | refine blk_drewN ?_ _ | refine blk_drew ?_ | refine blk_alloc ?_ _)); refine blk_put (cs := #[.string ((rd_T47 l0 x14_1).f0), .string ((rd_T47 l0 x14_1).f1), .int .i64 0]) ?_ 2 _ rfl; (with_reducible repeat (first | refine blk_drewN ?_ _ | refine blk_drew ?_ | refine blk_alloc ?_ _)); refine blk_put (cs := #[.string ((rd_T47 l0 x14_1).f0), .string (⟨#[]⟩ : ByteArray), .int .i64 0]) ?_ 1 _ rfl; (with_reducible repeat (first | refine blk_drewN ?_ _ | refine blk_drew ?_ | refine blk_alloc ?_ _)); refine blk_put (cs := #[.string (⟨#[]⟩ : ByteArray), .string (⟨#[]⟩ : ByteArray), .int .i64 0]) ?_ 0 _ rfl; (with_reducible repeat (first | refine blk_drewN ?_ _ | refine blk_drew ?_ | refine blk_alloc ?_ _)); exact BK102.out⟩, ⟨by repeat (first | (with_reducible first | exact HB.out | apply below_alloc | apply pw_below_drewN | apply below_drew1 | refine below_set ?_ GE102.out) | exact HB.out)⟩⟩
         ·
          rw [if_neg c11] at H
          have c11b0 : decide (60000 < (((rd_T47 l0 x14_1).f1).size : Int)) = false := decide_eq_false c11
          have c11b1 : decide (60000 < ((rd_T47 l0 x14_1).f1).size) = false := decide_eq_false (by omega)
          clear c11
          by_cases c13 : (((rd_T47 l0 x14_1).f1).size : Int) > 0
          ·
           rw [if_pos c13] at H
           have c13b0 : decide (0 < (((rd_T47 l0 x14_1).f1).size : Int)) = true := decide_eq_true c13
           have c13b1 : decide (0 < ((rd_T47 l0 x14_1).f1).size) = true := decide_eq_true (by omega)
           clear c13
           by_cases c14 : (((rd_T47 l0 x14_1).f1).size : Int) = 0
           ·
            rw [if_pos c14] at H
            exact absurd H (by simp)
           ·
            rw [if_neg c14] at H
            have c14b0 : ((((rd_T47 l0 x14_1).f1).size : Int) == 0) = false := beq_eq_false_iff_ne.mpr c14
            have c14b1 : ((((rd_T47 l0 x14_1).f1).size : Int) != 0) = true := bne_iff_ne.mpr c14
            have c14d : ((((rd_T47 l0 x14_1).f1).size : Int) = 0) = False := eq_false c14
            have c14e : (((rd_T47 l0 x14_1).f1).size = 0) = False := eq_false (by omega)
            by_cases c15 : ((rd_T47 l0 x14_1).f2) > (wrap64 ((60000 : Int) / (((rd_T47 l0 x14_1).f1).size : Int)))
            ·
             rw [if_pos c15] at H
             have c15b0 : decide ((wrap64 ((60000 : Int) / (((rd_T47 l0 x14_1).f1).size : Int))) < ((rd_T47 l0 x14_1).f2)) = true := decide_eq_true c15
             have c15x : decide ((wrap64 (Int.tdiv (60000 : Int) (((rd_T47 l0 x14_1).f1).size : Int))) < ((rd_T47 l0 x14_1).f2)) = true := by rw [Int.tdiv_eq_ediv_of_nonneg (by decide)]; exact c15b0
             have c15y : decide ((IntKind.i64.wrap (Int.tdiv (60000 : Int) (((rd_T47 l0 x14_1).f1).size : Int))) < ((rd_T47 l0 x14_1).f2)) = true := by rw [i64_w]; exact c15x
             clear c15
             have H' := Aside0.mk H
             clear H
             have hcz16_0 : w7.cell? ⟨gb102, 0, none⟩ = some (.string (⟨#[]⟩ : ByteArray)) := (blk_cell BK102.out 0).trans rfl
             have hcz16_1 : w7.cell? ⟨gb102, 1, none⟩ = some (.string (⟨#[]⟩ : ByteArray)) := (blk_cell BK102.out 1).trans rfl
             have hcz16_2 : w7.cell? ⟨gb102, 2, none⟩ = some (.int .i64 0) := (blk_cell BK102.out 2).trans rfl
             have hfz16_0 := blk_frozen BK102.out 0
             have hfz16_1 := blk_frozen BK102.out 1
             have hfz16_2 := blk_frozen BK102.out 2
             go_wp2
             repeat (go_quiet (fail); try go_wp2)
             go_meet
             case rel => exact ⟨_, (true), (by first | with_reducible rfl | (simp only [pps, Nat.reduceAdd, Int.toNat_natCast]; done) | rfl | (simp; done) | (simp [*]; done)), H', ⟨by have := HK1.out; first | omega | exact Nat.le_refl _⟩, ⟨by (with_reducible repeat (first | refine blk_drewN ?_ _ | refine blk_drew ?_ | refine blk_alloc ?_ _)); refine blk_put (cs := #[.string ((rd_T47 l0 x14_1).f0), .string ((rd_T47 l0 x14_1).f1), .int .i64 0]) ?_ 2 _ rfl; (with_reducible repeat (first | refine blk_drewN ?_ _ | refine blk_drew ?_ | refine blk_alloc ?_ _)); refine blk_put (cs := #[.string ((rd_T47 l0 x14_1).f0), .string (⟨#[]⟩ : ByteArray), .int .i64 0]) ?_ 1 _ rfl; (with_reducible repeat (first | refine blk_drewN ?_ _ | refine blk_drew ?_ | refine blk_alloc ?_ _)); refine blk_put (cs := #[.string (⟨#[]⟩ : ByteArray), .string (⟨#[]⟩ : ByteArray), .int .i64 0]) ?_ 0 _ rfl; (with_reducible repeat (first | refine blk_drewN ?_ _ | refine blk_drew ?_ | refine blk_alloc ?_ _)); exact BK102.out⟩, ⟨by repeat (first | (with_reducible first | exact HB.out | apply below_alloc | apply pw_below_drewN | apply below_drew1 | refine below_set ?_ GE102.out) | exact HB.out)⟩⟩
            ·
             rw [if_neg c15] at H
             have c15b0 : decide ((wrap64 ((60000 : Int) / (((rd_T47 l0 x14_1).f1).size : Int))) < ((rd_T47 l0 x14_1).f2)) = false := decide_eq_false c15
             have c15x : decide ((wrap64 (Int.tdiv (60000 : Int) (((rd_T47 l0 x14_1).f1).size : Int))) < ((rd_T47 l0 x14_1).f2)) = false := by rw [Int.tdiv_eq_ediv_of_nonneg (by decide)]; exact c15b0
             have c15y : decide ((IntKind.i64.wrap (Int.tdiv (60000 : Int) (((rd_T47 l0 x14_1).f1).size : Int))) < ((rd_T47 l0 x14_1).f2)) = false := by rw [i64_w]; exact c15x
             clear c15
             have H' := Aside0.mk H
             clear H
             have hcz17_0 : w7.cell? ⟨gb102, 0, none⟩ = some (.string (⟨#[]⟩ : ByteArray)) := (blk_cell BK102.out 0).trans rfl
             have hcz17_1 : w7.cell? ⟨gb102, 1, none⟩ = some (.string (⟨#[]⟩ : ByteArray)) := (blk_cell BK102.out 1).trans rfl
             have hcz17_2 : w7.cell? ⟨gb102, 2, none⟩ = some (.int .i64 0) := (blk_cell BK102.out 2).trans rfl
             have hfz17_0 := blk_frozen BK102.out 0
             have hfz17_1 := blk_frozen BK102.out 1
             have hfz17_2 := blk_frozen BK102.out 2
             go_wp2
             repeat (go_quiet (fail); try go_wp2)
             go_meet
             case rel => exact ⟨_, (decide ((x4_1.size : Int) > 120000)), (by first | with_reducible rfl | (simp only [pps, Nat.reduceAdd, Int.toNat_natCast]; done) | rfl | (simp; done) | (simp [*]; done)), H', ⟨by have := HK1.out; first | omega | exact Nat.le_refl _⟩, ⟨by (with_reducible repeat (first | refine blk_drewN ?_ _ | refine blk_drew ?_ | refine blk_alloc ?_ _)); refine blk_put (cs := #[.string ((rd_T47 l0 x14_1).f0), .string ((rd_T47 l0 x14_1).f1), .int .i64 0]) ?_ 2 _ rfl; (with_reducible repeat (first | refine blk_drewN ?_ _ | refine blk_drew ?_ | refine blk_alloc ?_ _)); refine blk_put (cs := #[.string ((rd_T47 l0 x14_1).f0), .string (⟨#[]⟩ : ByteArray), .int .i64 0]) ?_ 1 _ rfl; (with_reducible repeat (first | refine blk_drewN ?_ _ | refine blk_drew ?_ | refine blk_alloc ?_ _)); refine blk_put (cs := #[.string (⟨#[]⟩ : ByteArray), .string (⟨#[]⟩ : ByteArray), .int .i64 0]) ?_ 0 _ rfl; (with_reducible repeat (first | refine blk_drewN ?_ _ | refine blk_drew ?_ | refine blk_alloc ?_ _)); exact BK102.out⟩, ⟨by repeat (first | (with_reducible first | exact HB.out | apply below_alloc | apply pw_below_drewN | apply below_drew1 | refine below_set ?_ GE102.out) | exact HB.out)⟩⟩
          ·
           rw [if_neg c13] at H
           have c13b0 : decide (0 < (((rd_T47 l0 x14_1).f1).size : Int)) = false := decide_eq_false c13
           have c13b1 : decide (0 < ((rd_T47 l0 x14_1).f1).size) = false := decide_eq_false (by omega)
           clear c13
           have H' := Aside0.mk H
           clear H
           have hcz18_0 : w7.cell? ⟨gb102, 0, none⟩ = some (.string (⟨#[]⟩ : ByteArray)) := (blk_cell BK102.out 0).trans rfl
           have hcz18_1 : w7.cell? ⟨gb102, 1, none⟩ = some (.string (⟨#[]⟩ : ByteArray)) := (blk_cell BK102.out 1).trans rfl
           have hcz18_2 : w7.cell? ⟨gb102, 2, none⟩ = some (.int .i64 0) := (blk_cell BK102.out 2).trans rfl
           have hfz18_0 := blk_frozen BK102.out 0
           have hfz18_1 := blk_frozen BK102.out 1
           have hfz18_2 := blk_frozen BK102.out 2
           go_wp2
           repeat (go_quiet (fail); try go_wp2)
           go_meet
           case rel => exact ⟨_, (decide ((x4_1.size : Int) > 120000)), (by first | with_reducible rfl | (simp only [pps, Nat.reduceAdd, Int.toNat_natCast]; done) | rfl | (simp; done) | (simp [*]; done)), H', ⟨by have := HK1.out; first | omega | exact Nat.le_refl _⟩, ⟨by (with_reducible repeat (first | refine blk_drewN ?_ _ | refine blk_drew ?_ | refine blk_alloc ?_ _)); refine blk_put (cs := #[.string ((rd_T47 l0 x14_1).f0), .string ((rd_T47 l0 x14_1).f1), .int .i64 0]) ?_ 2 _ rfl; (with_reducible repeat (first | refine blk_drewN ?_ _ | refine blk_drew ?_ | refine blk_alloc ?_ _)); refine blk_put (cs := #[.string ((rd_T47 l0 x14_1).f0), .string (⟨#[]⟩ : ByteArray), .int .i64 0]) ?_ 1 _ rfl; (with_reducible repeat (first | refine blk_drewN ?_ _ | refine blk_drew ?_ | refine blk_alloc ?_ _)); refine blk_put (cs := #[.string (⟨#[]⟩ : ByteArray), .string (⟨#[]⟩ : ByteArray), .int .i64 0]) ?_ 0 _ rfl; (with_reducible repeat (first | refine blk_drewN ?_ _ | refine blk_drew ?_ | refine blk_alloc ?_ _)); exact BK102.out⟩, ⟨by repeat (first | (with_reducible first | exact HB.out | apply below_alloc | apply pw_below_drewN | apply below_drew1 | refine below_set ?_ GE102.out) | exact HB.out)⟩⟩
       case rest =>
        clear HC6
        try clear c1
        try clear p1
        try clear q1
        try clear hx1
        try clear c2
        try clear c2b0
        try clear c2b1
        try clear p2
        try clear c3
        try clear c3b0
        try clear c4
        try clear c4b0
        try clear c5
        try clear c5b0
        try clear p6
        try clear c8
        try clear c9
        try clear c9b0
        try clear c9b1
        try clear p10
        try clear q10
        try clear hx10
        try clear c11
        try clear c11b0
        try clear c11b1
        try clear c13
        try clear c13b0
        try clear c13b1
        try clear c14
        try clear c14b0
        try clear c14b1
        try clear c15
        try clear c15b0
        try clear hcz10_0
        try clear hcz10_1
        try clear hcz10_2
        try clear hcz12_0
        try clear hcz12_1
        try clear hcz12_2
        try clear hcz16_0
        try clear hcz16_1
        try clear hcz16_2
        try clear hcz17_0
        try clear hcz17_1
        try clear hcz17_2
        try clear hcz18_0
        try clear hcz18_1
        try clear hcz18_2
        try clear hcz8_0
        try clear hcz8_1
        try clear hcz8_2
        try clear hfz10_0
        try clear hfz10_1
        try clear hfz10_2
        try clear hfz12_0
        try clear hfz12_1
        try clear hfz12_2
        try clear hfz16_0
        try clear hfz16_1
        try clear hfz16_2
        try clear hfz17_0
        try clear hfz17_1
        try clear hfz17_2
        try clear hfz18_0
        try clear hfz18_1
        try clear hfz18_2
        try clear hfz8_0
        try clear hfz8_1
        try clear hfz8_2
        try clear hx101_0
        try clear hx101_1
        try clear hx101_2
        try clear p101
        try clear p2
        try clear q101
        obtain ⟨kq, x47_5, rfl, HA, HJ5, BK102, HB⟩ := hcut
        cases kq with
        | zero => exact absurd HA.out (by simp [haversacklaw13_text.j1])
        | succ kj5 =>
         have H := HA.out
         clear HA
         simp only [haversacklaw13_text.j1] at H
         by_cases c19 : x47_5 = true
         ·
          subst c19
          have H1 : (some ((⟨#[]⟩ : ByteArray), false)) = some (r1, r2) := by rw [if_pos rfl] at H; exact H
          clear H
          have H := H1
          clear H1
          simp only [Option.some.injEq, Prod.mk.injEq] at H
          obtain ⟨rfl, rfl⟩ := H
          go_wp2
          repeat (go_quiet (fail); try go_wp2)
          go_ret2
          exact ⟨by first | rfl | (simp [errW_none, errW_some] <;> rfl) | (simp [*, errW_none, errW_some] <;> rfl), by repeat (first | (with_reducible first | exact HB.out | apply below_alloc | apply pw_below_drewN | apply below_drew1 | refine below_set ?_ GE102.out) | exact HB.out)⟩
         ·
          replace c19 := Bool.eq_false_iff.mpr c19
          subst c19
          have H1 : (if x4_1.size + ((rd_T47 l0 x14_1).f0).size ≤ 9223372036854775807 then (haversacklaw13_text.l1 kj5 (x4_1 ++ ((rd_T47 l0 x14_1).f0)) (([] : List Int)) 0 l0 (l0.length : Int) x14_1 ((rd_T47 l0 x14_1).f0) ((rd_T47 l0 x14_1).f1) ((rd_T47 l0 x14_1).f2)) else (none)) = some (r1, r2) := by rw [if_neg (show ¬ (false = true) by decide)] at H; exact H
          clear H
          have H := H1
          clear H1
          by_cases c20 : x4_1.size + ((rd_T47 l0 x14_1).f0).size ≤ 9223372036854775807
          ·
           rw [if_pos c20] at H
           have c20b0 := eq_true c20
           have c20b1 : decide (x4_1.size + ((rd_T47 l0 x14_1).f0).size ≤ 9223372036854775807) = true := decide_eq_true c20
           try have c20b2 : (9223372036854775807 < x4_1.size + ((rd_T47 l0 x14_1).f0).size) = False := eq_false (Nat.not_lt.2 c20)
           obtain ⟨y103, hy103⟩ : ∃ y_ : List Int, y_ = (([] : List Int)) := ⟨_, rfl⟩
           replace H : (haversacklaw13_text.l1 kj5 (x4_1 ++ ((rd_T47 l0 x14_1).f0)) y103 0 l0 (l0.length : Int) x14_1 ((rd_T47 l0 x14_1).f0) ((rd_T47 l0 x14_1).f1) ((rd_T47 l0 x14_1).f2)) = some (r1, r2) := by first | (rw [hy103]; with_reducible exact H) | (have H2_ := (Option.bind_some _ _).symm.trans H; rw [hy103]; with_reducible exact H2_) | (have H2_ := (Option.bind_some _ _).symm.trans H; with_reducible exact H2_) | with_reducible exact H | (rw [hy103]; exact H) | exact H
           have Ny103 := Aside0.mk hy103
           clear hy103
           have H' := Aside0.mk H
           clear H
           have hcz21_0 : wc.cell? ⟨gb102, 0, none⟩ = some (.string ((rd_T47 l0 x14_1).f0)) := (blk_cell BK102.out 0).trans rfl
           have hcz21_1 : wc.cell? ⟨gb102, 1, none⟩ = some (.string ((rd_T47 l0 x14_1).f1)) := (blk_cell BK102.out 1).trans rfl
           have hcz21_2 : wc.cell? ⟨gb102, 2, none⟩ = some (.int .i64 ((rd_T47 l0 x14_1).f2)) := (blk_cell BK102.out 2).trans rfl
           have hfz21_0 := blk_frozen BK102.out 0
           have hfz21_1 := blk_frozen BK102.out 1
           have hfz21_2 := blk_frozen BK102.out 2
           go_wp2_with (first | ((with_reducible refine gate_dst (N := 52) rfl ?_); (try (refine gate_guard (by rfl) ?_; dsimp only)); refine Kd.R_lit (Kd.int .u8) _ 5 ?hg (N := 52) ?hd (xs := ([] : List Int)) (inner := []) (ok := fun _ => True) (okp := fun _ => True) ?hr ?hp (fun _ hk => hk) trivial (Below.refl _ _) (Nat.le_refl _) (by simp) ?_; (case hd => rfl); (case hg => rfl); (case hr => first | (go_simp; done) | (go_simp; rfl)); (case hp => exact (Reps.none _ _)); intro v104 w22 ho23 hb hg_ hnew_; clear hg_ hnew_; (first | rw [← Ny103.out] at ho23 | (simp only [Int.reduceToNat] at ho23; rw [← Ny103.out] at ho23)); have n0_ := Aside0.mk (Kd.R_lower ho23 (below_size (by repeat (first | (with_reducible first | exact HB.out | apply below_alloc | apply pw_below_drewN | apply below_drew1 | refine below_set ?_ GE102.out) | exact HB.out)))); have n1_ := Aside0.mk (blk_below (g := gb102) (o := .cells #[.string ((rd_T47 l0 x14_1).f0), .string ((rd_T47 l0 x14_1).f1), .int .i64 ((rd_T47 l0 x14_1).f2)] 47 (0, 0)) (by (with_reducible repeat (first | refine blk_drewN ?_ _ | refine blk_drew ?_ | refine blk_alloc ?_ _)); exact BK102.out) hb); have n2_ := Aside0.mk (below_step (by repeat (first | (with_reducible first | exact HB.out | apply below_alloc | apply pw_below_drewN | apply below_drew1 | refine below_set ?_ GE102.out) | exact HB.out)) hb); clear BK102; clear HB; have HO105 := n0_; have BK102 := n1_; have HB := n2_; clear n0_ n1_ n2_; clear hb ho23))
           repeat (go_quiet (first | ((with_reducible refine gate_dst (N := 52) rfl ?_); (try (refine gate_guard (by rfl) ?_; dsimp only)); refine Kd.R_lit (Kd.int .u8) _ 5 ?hg (N := 52) ?hd (xs := ([] : List Int)) (inner := []) (ok := fun _ => True) (okp := fun _ => True) ?hr ?hp (fun _ hk => hk) trivial (Below.refl _ _) (Nat.le_refl _) (by simp) ?_; (case hd => rfl); (case hg => rfl); (case hr => first | (go_simp; done) | (go_simp; rfl)); (case hp => exact (Reps.none _ _)); intro v104 w22 ho23 hb hg_ hnew_; clear hg_ hnew_; (first | rw [← Ny103.out] at ho23 | (simp only [Int.reduceToNat] at ho23; rw [← Ny103.out] at ho23)); have n0_ := Aside0.mk (Kd.R_lower ho23 (below_size (by repeat (first | (with_reducible first | exact HB.out | apply below_alloc | apply pw_below_drewN | apply below_drew1 | refine below_set ?_ GE102.out) | exact HB.out)))); have n1_ := Aside0.mk (blk_below (g := gb102) (o := .cells #[.string ((rd_T47 l0 x14_1).f0), .string ((rd_T47 l0 x14_1).f1), .int .i64 ((rd_T47 l0 x14_1).f2)] 47 (0, 0)) (by (with_reducible repeat (first | refine blk_drewN ?_ _ | refine blk_drew ?_ | refine blk_alloc ?_ _)); exact BK102.out) hb); have n2_ := Aside0.mk (below_step (by repeat (first | (with_reducible first | exact HB.out | apply below_alloc | apply pw_below_drewN | apply below_drew1 | refine below_set ?_ GE102.out) | exact HB.out)) hb); clear BK102; clear HB; have HO105 := n0_; have BK102 := n1_; have HB := n2_; clear n0_ n1_ n2_; clear hb ho23)); try go_wp2_with (first | ((with_reducible refine gate_dst (N := 52) rfl ?_); (try (refine gate_guard (by rfl) ?_; dsimp only)); refine Kd.R_lit (Kd.int .u8) _ 5 ?hg (N := 52) ?hd (xs := ([] : List Int)) (inner := []) (ok := fun _ => True) (okp := fun _ => True) ?hr ?hp (fun _ hk => hk) trivial (Below.refl _ _) (Nat.le_refl _) (by simp) ?_; (case hd => rfl); (case hg => rfl); (case hr => first | (go_simp; done) | (go_simp; rfl)); (case hp => exact (Reps.none _ _)); intro v104 w22 ho23 hb hg_ hnew_; clear hg_ hnew_; (first | rw [← Ny103.out] at ho23 | (simp only [Int.reduceToNat] at ho23; rw [← Ny103.out] at ho23)); have n0_ := Aside0.mk (Kd.R_lower ho23 (below_size (by repeat (first | (with_reducible first | exact HB.out | apply below_alloc | apply pw_below_drewN | apply below_drew1 | refine below_set ?_ GE102.out) | exact HB.out)))); have n1_ := Aside0.mk (blk_below (g := gb102) (o := .cells #[.string ((rd_T47 l0 x14_1).f0), .string ((rd_T47 l0 x14_1).f1), .int .i64 ((rd_T47 l0 x14_1).f2)] 47 (0, 0)) (by (with_reducible repeat (first | refine blk_drewN ?_ _ | refine blk_drew ?_ | refine blk_alloc ?_ _)); exact BK102.out) hb); have n2_ := Aside0.mk (below_step (by repeat (first | (with_reducible first | exact HB.out | apply below_alloc | apply pw_below_drewN | apply below_drew1 | refine below_set ?_ GE102.out) | exact HB.out)) hb); clear BK102; clear HB; have HO105 := n0_; have BK102 := n1_; have HB := n2_; clear n0_ n1_ n2_; clear hb ho23)))
           go_loopg [7, 8] kj5 (fun kq v7 v8 w' => ∃ (x7_3 : List Int) (x8_3 : Int), v8 = .int .i64 x8_3 ∧ Aside0 (haversacklaw13_text.l1 kq (x4_1 ++ ((rd_T47 l0 x14_1).f0)) x7_3 x8_3 l0 (l0.length : Int) x14_1 ((rd_T47 l0 x14_1).f0) ((rd_T47 l0 x14_1).f1) ((rd_T47 l0 x14_1).f2) = some (r1, r2)) ∧ Aside0 (kq ≤ kj5) ∧ Aside0 (Kd.R (Kd.int .u8) 5 w' w.heap.size (fun _ => True) v7 x7_3) ∧ Aside0 (w'.heap[gb102]? = some (.cells #[.string ((rd_T47 l0 x14_1).f0), .string ((rd_T47 l0 x14_1).f1), .int .i64 ((rd_T47 l0 x14_1).f2)] 47 (0, 0))) ∧ Aside0 (Below w.heap.size w w'))
           case atStart => exact ⟨(y103), (0), (by first | with_reducible rfl | (simp only [pps, Nat.reduceAdd, Int.toNat_natCast]; done) | rfl | (simp; done) | (simp [*]; done)), H', ⟨Nat.le_refl _⟩, ⟨by (with_reducible repeat (first | apply Kd.R_alloc | apply Kd.R_drewN | apply Kd.R_drew)); exact HO105.out⟩, ⟨by (with_reducible repeat (first | refine blk_drewN ?_ _ | refine blk_drew ?_ | refine blk_alloc ?_ _)); exact BK102.out⟩, ⟨by repeat (first | (with_reducible first | exact HB.out | apply below_alloc | apply pw_below_drewN | apply below_drew1 | refine below_set ?_ GE102.out) | exact HB.out)⟩⟩
           case round =>
            clear H'
            try clear c1
            try clear p1
            try clear q1
            try clear hx1
            try clear c2
            try clear c2b0
            try clear c2b1
            try clear p2
            try clear c3
            try clear c3b0
            try clear c4
            try clear c4b0
            try clear c5
            try clear c5b0
            try clear p6
            try clear c8
            try clear c9
            try clear c9b0
            try clear c9b1
            try clear p10
            try clear q10
            try clear hx10
            try clear c11
            try clear c11b0
            try clear c11b1
            try clear c13
            try clear c13b0
            try clear c13b1
            try clear c14
            try clear c14b0
            try clear c14b1
            try clear c15
            try clear c15b0
            try clear c19
            try clear c20
            try clear c20b0
            try clear c20b1
            try clear c20b2
            try clear hcz10_0
            try clear hcz10_1
            try clear hcz10_2
            try clear hcz12_0
            try clear hcz12_1
            try clear hcz12_2
            try clear hcz16_0
            try clear hcz16_1
            try clear hcz16_2
            try clear hcz17_0
            try clear hcz17_1
            try clear hcz17_2
            try clear hcz18_0
            try clear hcz18_1
            try clear hcz18_2
            try clear hcz21_0
            try clear hcz21_1
            try clear hcz21_2
            try clear hcz8_0
            try clear hcz8_1
            try clear hcz8_2
            try clear hfz10_0
            try clear hfz10_1
            try clear hfz10_2
            try clear hfz12_0
            try clear hfz12_1
            try clear hfz12_2
            try clear hfz16_0
            try clear hfz16_1
            try clear hfz16_2
            try clear hfz17_0
            try clear hfz17_1
            try clear hfz17_2
            try clear hfz18_0
            try clear hfz18_1
            try clear hfz18_2
            try clear hfz21_0
            try clear hfz21_1
            try clear hfz21_2
            try clear hfz8_0
            try clear hfz8_1
            try clear hfz8_2
            try clear hx101_0
            try clear hx101_1
            try clear hx101_2
            try clear p1
            try clear p10
            try clear p101
            try clear p2
            try clear p6
            try clear q1
            try clear q10
            try clear q101
            obtain ⟨x7_3, x8_3, rfl, HA, HK3, HO_7, BK102, HB⟩ := hrel
            cases gk with
            | zero => exact absurd HA.out (by simp [haversacklaw13_text.l1])
            | succ k3 =>
             have H := HA.out
             clear HA
             simp only [haversacklaw13_text.l1] at H
             by_cases c24 : x8_3 < ((rd_T47 l0 x14_1).f2)
             ·
              rw [if_pos c24] at H
              have c24b0 : decide (x8_3 < ((rd_T47 l0 x14_1).f2)) = true := decide_eq_true c24
              clear c24
              by_cases c25 : (((rd_T47 l0 x14_1).f1).size : Int) > 0
              ·
               rw [if_pos c25] at H
               have c25b0 : decide (0 < (((rd_T47 l0 x14_1).f1).size : Int)) = true := decide_eq_true c25
               have c25b1 : decide (0 < ((rd_T47 l0 x14_1).f1).size) = true := decide_eq_true (by omega)
               clear c25
               by_cases c26 : x7_3.length + ((rd_T47 l0 x14_1).f1).size < 140737488355328
               ·
                rw [if_pos c26] at H
                have LMc26 := Aside0.mk c26
                clear c26
                obtain ⟨y106, hy106⟩ : ∃ y_ : List Int, y_ = (x7_3 ++ bytesOf ((rd_T47 l0 x14_1).f1)) := ⟨_, rfl⟩
                replace H : (haversacklaw13_text.l1 k3 (x4_1 ++ ((rd_T47 l0 x14_1).f0)) y106 (wrap64 (x8_3 + 1)) l0 (l0.length : Int) x14_1 ((rd_T47 l0 x14_1).f0) ((rd_T47 l0 x14_1).f1) ((rd_T47 l0 x14_1).f2)) = some (r1, r2) := by first | (rw [hy106]; with_reducible exact H) | (have H2_ := (Option.bind_some _ _).symm.trans H; rw [hy106]; with_reducible exact H2_) | (have H2_ := (Option.bind_some _ _).symm.trans H; with_reducible exact H2_) | with_reducible exact H | (rw [hy106]; exact H) | exact H
                have Ny106 := Aside0.mk hy106
                clear hy106
                have H' := Aside0.mk H
                clear H
                have hcz27_0 : wr.cell? ⟨gb102, 0, none⟩ = some (.string ((rd_T47 l0 x14_1).f0)) := (blk_cell BK102.out 0).trans rfl
                have hcz27_1 : wr.cell? ⟨gb102, 1, none⟩ = some (.string ((rd_T47 l0 x14_1).f1)) := (blk_cell BK102.out 1).trans rfl
                have hcz27_2 : wr.cell? ⟨gb102, 2, none⟩ = some (.int .i64 ((rd_T47 l0 x14_1).f2)) := (blk_cell BK102.out 2).trans rfl
                have hfz27_0 := blk_frozen BK102.out 0
                have hfz27_1 := blk_frozen BK102.out 1
                have hfz27_2 := blk_frozen BK102.out 2
                go_wp2_with (first | (at_builtin; refine print_append_str (w0 := w) w.heap.size rfl (.tmp 65) _ 31 9 5 rfl Tryd.underlying31 Tryd.underlying9 info5 u7 x7_3 ((rd_T47 l0 x14_1).f1) rfl rfl ?aO ?aB ?aS ?aL ?_; (case aB => exact (by repeat (first | (with_reducible first | exact HB.out | apply below_alloc | apply pw_below_drewN | apply below_drew1 | refine below_set ?_ GE102.out) | exact HB.out))); (case aO => exact (Kd.own_of_R (by (with_reducible repeat (first | apply Kd.R_alloc | apply Kd.R_drewN | apply Kd.R_drew)); exact HO_7.out))); (case aS => exact (below_size (by repeat (first | (with_reducible first | exact HB.out | apply below_alloc | apply pw_below_drewN | apply below_drew1 | refine below_set ?_ GE102.out) | exact HB.out)))); (case aL => have := LMc26.out; omega); intro v107 w28 ho0 hb hg; have ho := Kd.R_of_own (h1 := fun _ => rfl) (ok := fun _ => True) ho0 (fun _ _ => trivial); clear ho0; have hat := True.intro; rw [← Ny106.out] at ho; change Kd.R (Kd.int .u8) 5 w28 w.heap.size (fun _ => True) v107 y106 at ho; have n0_ := Aside0.mk (blk_grown (g := gb102) (o := .cells #[.string ((rd_T47 l0 x14_1).f0), .string ((rd_T47 l0 x14_1).f1), .int .i64 ((rd_T47 l0 x14_1).f2)] 47 (0, 0)) (by (with_reducible repeat (first | refine blk_drewN ?_ _ | refine blk_drew ?_ | refine blk_alloc ?_ _)); exact BK102.out) hg (Kd.R_ne HO_7.out BK102.out (by decide))); have n1_ := Aside0.mk (hb); have n2_ := Aside0.mk (ho); clear BK102; clear HB; clear HO_7; have BK102 := n0_; have HB := n1_; have HO108 := n2_; clear n0_ n1_ n2_; clear ho hb hg hat))
                repeat (go_quiet (first | (at_builtin; refine print_append_str (w0 := w) w.heap.size rfl (.tmp 65) _ 31 9 5 rfl Tryd.underlying31 Tryd.underlying9 info5 u7 x7_3 ((rd_T47 l0 x14_1).f1) rfl rfl ?aO ?aB ?aS ?aL ?_; (case aB => exact (by repeat (first | (with_reducible first | exact HB.out | apply below_alloc | apply pw_below_drewN | apply below_drew1 | refine below_set ?_ GE102.out) | exact HB.out))); (case aO => exact (Kd.own_of_R (by (with_reducible repeat (first | apply Kd.R_alloc | apply Kd.R_drewN | apply Kd.R_drew)); exact HO_7.out))); (case aS => exact (below_size (by repeat (first | (with_reducible first | exact HB.out | apply below_alloc | apply pw_below_drewN | apply below_drew1 | refine below_set ?_ GE102.out) | exact HB.out)))); (case aL => have := LMc26.out; omega); intro v107 w28 ho0 hb hg; have ho := Kd.R_of_own (h1 := fun _ => rfl) (ok := fun _ => True) ho0 (fun _ _ => trivial); clear ho0; have hat := True.intro; rw [← Ny106.out] at ho; change Kd.R (Kd.int .u8) 5 w28 w.heap.size (fun _ => True) v107 y106 at ho; have n0_ := Aside0.mk (blk_grown (g := gb102) (o := .cells #[.string ((rd_T47 l0 x14_1).f0), .string ((rd_T47 l0 x14_1).f1), .int .i64 ((rd_T47 l0 x14_1).f2)] 47 (0, 0)) (by (with_reducible repeat (first | refine blk_drewN ?_ _ | refine blk_drew ?_ | refine blk_alloc ?_ _)); exact BK102.out) hg (Kd.R_ne HO_7.out BK102.out (by decide))); have n1_ := Aside0.mk (hb); have n2_ := Aside0.mk (ho); clear BK102; clear HB; clear HO_7; have BK102 := n0_; have HB := n1_; have HO108 := n2_; clear n0_ n1_ n2_; clear ho hb hg hat)); try go_wp2_with (first | (at_builtin; refine print_append_str (w0 := w) w.heap.size rfl (.tmp 65) _ 31 9 5 rfl Tryd.underlying31 Tryd.underlying9 info5 u7 x7_3 ((rd_T47 l0 x14_1).f1) rfl rfl ?aO ?aB ?aS ?aL ?_; (case aB => exact (by repeat (first | (with_reducible first | exact HB.out | apply below_alloc | apply pw_below_drewN | apply below_drew1 | refine below_set ?_ GE102.out) | exact HB.out))); (case aO => exact (Kd.own_of_R (by (with_reducible repeat (first | apply Kd.R_alloc | apply Kd.R_drewN | apply Kd.R_drew)); exact HO_7.out))); (case aS => exact (below_size (by repeat (first | (with_reducible first | exact HB.out | apply below_alloc | apply pw_below_drewN | apply below_drew1 | refine below_set ?_ GE102.out) | exact HB.out)))); (case aL => have := LMc26.out; omega); intro v107 w28 ho0 hb hg; have ho := Kd.R_of_own (h1 := fun _ => rfl) (ok := fun _ => True) ho0 (fun _ _ => trivial); clear ho0; have hat := True.intro; rw [← Ny106.out] at ho; change Kd.R (Kd.int .u8) 5 w28 w.heap.size (fun _ => True) v107 y106 at ho; have n0_ := Aside0.mk (blk_grown (g := gb102) (o := .cells #[.string ((rd_T47 l0 x14_1).f0), .string ((rd_T47 l0 x14_1).f1), .int .i64 ((rd_T47 l0 x14_1).f2)] 47 (0, 0)) (by (with_reducible repeat (first | refine blk_drewN ?_ _ | refine blk_drew ?_ | refine blk_alloc ?_ _)); exact BK102.out) hg (Kd.R_ne HO_7.out BK102.out (by decide))); have n1_ := Aside0.mk (hb); have n2_ := Aside0.mk (ho); clear BK102; clear HB; clear HO_7; have BK102 := n0_; have HB := n1_; have HO108 := n2_; clear n0_ n1_ n2_; clear ho hb hg hat)))
                go_roundg k3
                case measure => have := HK1.out; have := HJ5.out; have := HK3.out; omega
                case rel => exact ⟨(y106), (wrap64 (x8_3 + 1)), (by first | with_reducible rfl | (simp only [pps, Nat.reduceAdd, Int.toNat_natCast]; done) | rfl | (simp; done) | (simp [*]; done)), H', ⟨by have := HK1.out; have := HJ5.out; have := HK3.out; omega⟩, ⟨by (with_reducible repeat (first | apply Kd.R_alloc | apply Kd.R_drewN | apply Kd.R_drew)); exact HO108.out⟩, ⟨by (with_reducible repeat (first | refine blk_drewN ?_ _ | refine blk_drew ?_ | refine blk_alloc ?_ _)); exact BK102.out⟩, ⟨by repeat (first | (with_reducible first | exact HB.out | apply below_alloc | apply pw_below_drewN | apply below_drew1 | refine below_set ?_ GE102.out) | exact HB.out)⟩⟩
               ·
                rw [if_neg c26] at H
                exact absurd H (by simp)
              ·
               rw [if_neg c25] at H
               have c25b0 : decide (0 < (((rd_T47 l0 x14_1).f1).size : Int)) = false := decide_eq_false c25
               have c25b1 : decide (0 < ((rd_T47 l0 x14_1).f1).size) = false := decide_eq_false (by omega)
               clear c25
               by_cases c29 : (x4_1 ++ ((rd_T47 l0 x14_1).f0)).size + (strOfNums x7_3).size ≤ 9223372036854775807
               ·
                rw [if_pos c29] at H
                have c29b0 := eq_true c29
                have c29b1 : decide ((x4_1 ++ ((rd_T47 l0 x14_1).f0)).size + (strOfNums x7_3).size ≤ 9223372036854775807) = true := decide_eq_true c29
                try (have c29b1s := c29b1; simp only [pps, Nat.reduceAdd, Int.toNat_natCast] at c29b1s; first | have c29b1t := eq_true (of_decide_eq_true c29b1s) | have c29b1t := eq_false (of_decide_eq_false c29b1s) | skip)
                try have c29b2 : (9223372036854775807 < (x4_1 ++ ((rd_T47 l0 x14_1).f0)).size + (strOfNums x7_3).size) = False := eq_false (Nat.not_lt.2 c29)
                try (have c29b2s := c29b2; simp only [pps, Nat.reduceAdd, Int.toNat_natCast] at c29b2s; first | have c29b2t := eq_true (of_decide_eq_true c29b2s) | have c29b2t := eq_false (of_decide_eq_false c29b2s) | skip)
                have H' := Aside0.mk H
                clear H
                have hcz30_0 : wr.cell? ⟨gb102, 0, none⟩ = some (.string ((rd_T47 l0 x14_1).f0)) := (blk_cell BK102.out 0).trans rfl
                have hcz30_1 : wr.cell? ⟨gb102, 1, none⟩ = some (.string ((rd_T47 l0 x14_1).f1)) := (blk_cell BK102.out 1).trans rfl
                have hcz30_2 : wr.cell? ⟨gb102, 2, none⟩ = some (.int .i64 ((rd_T47 l0 x14_1).f2)) := (blk_cell BK102.out 2).trans rfl
                have hfz30_0 := blk_frozen BK102.out 0
                have hfz30_1 := blk_frozen BK102.out 1
                have hfz30_2 := blk_frozen BK102.out 2
                have hcv31 := own_string (P := Tryd.prog) Tryd.underlying31 Tryd.underlying5 Tryd.underlying9 (Kd.own_of_R HO_7.out)
                go_wp2
                repeat (go_quiet (fail); try go_wp2)
                go_roundg k3
                case measure => have := HK1.out; have := HJ5.out; have := HK3.out; omega
                case rel => exact ⟨((x4_1 ++ ((rd_T47 l0 x14_1).f0)) ++ (strOfNums x7_3)), (wrap64 (x14_1 + 1)), (by first | with_reducible rfl | (simp only [pps, Nat.reduceAdd, Int.toNat_natCast]; done) | rfl | (simp; done) | (simp [*]; done)), (by first | with_reducible rfl | (simp only [pps, Nat.reduceAdd, Int.toNat_natCast]; done) | rfl | (simp; done) | (simp [*]; done)), H', ⟨by have := HK1.out; have := HJ5.out; have := HK3.out; omega⟩, ⟨by repeat (first | (with_reducible first | exact HB.out | apply below_alloc | apply pw_below_drewN | apply below_drew1 | refine below_set ?_ GE102.out) | exact HB.out)⟩⟩
               ·
                rw [if_neg c29] at H
                exact absurd H (by simp)
             ·
              rw [if_neg c24] at H
              have c24b0 : decide (x8_3 < ((rd_T47 l0 x14_1).f2)) = false := decide_eq_false c24
              clear c24
              by_cases c32 : (x4_1 ++ ((rd_T47 l0 x14_1).f0)).size + (strOfNums x7_3).size ≤ 9223372036854775807
              ·
               rw [if_pos c32] at H
               have c32b0 := eq_true c32
               have c32b1 : decide ((x4_1 ++ ((rd_T47 l0 x14_1).f0)).size + (strOfNums x7_3).size ≤ 9223372036854775807) = true := decide_eq_true c32
               try (have c32b1s := c32b1; simp only [pps, Nat.reduceAdd, Int.toNat_natCast] at c32b1s; first | have c32b1t := eq_true (of_decide_eq_true c32b1s) | have c32b1t := eq_false (of_decide_eq_false c32b1s) | skip)
               try have c32b2 : (9223372036854775807 < (x4_1 ++ ((rd_T47 l0 x14_1).f0)).size + (strOfNums x7_3).size) = False := eq_false (Nat.not_lt.2 c32)
               try (have c32b2s := c32b2; simp only [pps, Nat.reduceAdd, Int.toNat_natCast] at c32b2s; first | have c32b2t := eq_true (of_decide_eq_true c32b2s) | have c32b2t := eq_false (of_decide_eq_false c32b2s) | skip)
               have H' := Aside0.mk H
               clear H
               have hcz33_0 : wr.cell? ⟨gb102, 0, none⟩ = some (.string ((rd_T47 l0 x14_1).f0)) := (blk_cell BK102.out 0).trans rfl
               have hcz33_1 : wr.cell? ⟨gb102, 1, none⟩ = some (.string ((rd_T47 l0 x14_1).f1)) := (blk_cell BK102.out 1).trans rfl
               have hcz33_2 : wr.cell? ⟨gb102, 2, none⟩ = some (.int .i64 ((rd_T47 l0 x14_1).f2)) := (blk_cell BK102.out 2).trans rfl
               have hfz33_0 := blk_frozen BK102.out 0
               have hfz33_1 := blk_frozen BK102.out 1
               have hfz33_2 := blk_frozen BK102.out 2
               have hcv34 := own_string (P := Tryd.prog) Tryd.underlying31 Tryd.underlying5 Tryd.underlying9 (Kd.own_of_R HO_7.out)
               go_wp2
               repeat (go_quiet (fail); try go_wp2)
               go_roundg k3
               case measure => have := HK1.out; have := HJ5.out; have := HK3.out; omega
               case rel => exact ⟨((x4_1 ++ ((rd_T47 l0 x14_1).f0)) ++ (strOfNums x7_3)), (wrap64 (x14_1 + 1)), (by first | with_reducible rfl | (simp only [pps, Nat.reduceAdd, Int.toNat_natCast]; done) | rfl | (simp; done) | (simp [*]; done)), (by first | with_reducible rfl | (simp only [pps, Nat.reduceAdd, Int.toNat_natCast]; done) | rfl | (simp; done) | (simp [*]; done)), H', ⟨by have := HK1.out; have := HJ5.out; have := HK3.out; omega⟩, ⟨by repeat (first | (with_reducible first | exact HB.out | apply below_alloc | apply pw_below_drewN | apply below_drew1 | refine below_set ?_ GE102.out) | exact HB.out)⟩⟩
              ·
               rw [if_neg c32] at H
               exact absurd H (by simp)
          ·
           rw [if_neg c20] at H
           exact absurd H (by simp)
      ·
       rw [if_neg c5] at H
       exact absurd H (by simp)
     ·
      rw [if_neg c4] at H
      exact absurd H (by simp)
    ·
     rw [if_neg c3] at H
     have c3b0 : decide (x14_1 < (l0.length : Int)) = false := decide_eq_false c3
     clear c3
     simp only [Option.some.injEq, Prod.mk.injEq] at H
     obtain ⟨rfl, rfl⟩ := H
     go_wp2
     repeat (go_quiet (fail); try go_wp2)
     go_ret2
     exact ⟨by first | rfl | (simp [errW_none, errW_some] <;> rfl) | (simp [*, errW_none, errW_some] <;> rfl), by repeat (first | (with_reducible first | exact HB.out | apply below_alloc | apply pw_below_drewN | apply below_drew1) | exact HB.out)⟩
end Go.Proofs.YtakfdmhoooeejaaDoor.PP
