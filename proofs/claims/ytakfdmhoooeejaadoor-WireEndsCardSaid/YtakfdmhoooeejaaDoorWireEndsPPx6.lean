/- YtakfdmhoooeejaaDoorPPx6, as far as WireEnds needs it (prune.py). -/
import Derived.Test.YtakfdmhoooeejaaDoorWireEndsPPx0
import Derived.Test.YtakfdmhoooeejaaDoorWireEndsPPx5
namespace Go.Proofs.YtakfdmhoooeejaaDoor.PP
open Go.RowKit Go.Proofs.YtakfdmhoooeejaaDoorW.PrintWords Go.Proofs.YtakfdmhoooeejaaDoorW.PrintLast Go.Proofs.YtakfdmhoooeejaaDoorW.PrintMore
attribute [local go_sem] max2_int min2_int max_two min_two max_three min_three max_four min_four   -- for this text's walks alone
open Go.Proofs.YtakfdmhoooeejaaDoor.My
set_option linter.unusedVariables false
set_option linter.unusedSimpArgs false
mutual
def haversacklaw13_clean.j0 : Nat → Bool → List ByteArray → List ByteArray → Option (Bool)
 | 0, _, _, _ => none
 | k + 1, x23, x122000, x122001 => if x23 = true then (some false) else (haversacklaw13_clean.l0 k (wrap64 (8 * (x122001.length : Int))) x122000 (x122000.length : Int) 0)
def haversacklaw13_clean.l0 : Nat → Int → List ByteArray → Int → Int → Option (Bool)
 | 0, _, _, _, _ => none
 | k + 1, x3, x29, x30, x31 => if x31 < x30 then (if 0 ≤ x31 then (if x31 < (x29.length : Int) then (haversacklaw13_clean.l1 k (wrap64 (x3 + ((rdOf ByteArray.empty x29 x31).size : Int))) (rdOf ByteArray.empty x29 x31) x29 x30 x31 ((rdOf ByteArray.empty x29 x31).size : Int) 0) else (none)) else (none)) else (some (decide (x3 ≤ 4000)))
def haversacklaw13_clean.l1 : Nat → Int → ByteArray → List ByteArray → Int → Int → Int → Int → Option (Bool)
 | 0, _, _, _, _, _, _, _ => none
 | k + 1, x3, x5, x29, x30, x31, x40, x41 => if x41 < x40 then (if 0 ≤ x41 then (if x41 < (x5.size : Int) then (if (bt x5 x41) = 10 then (some false) else (haversacklaw13_clean.l1 k x3 x5 x29 x30 x31 x40 (wrap64 (x41 + 1)))) else (none)) else (none)) else ((haversackref13_Mark.f k x5).bind fun bt123 => (if (x5.size : Int) > 0 then (if 0 ≤ (wrap64 ((x5.size : Int) - 1)) then (if (wrap64 ((x5.size : Int) - 1)) < (x5.size : Int) then (if (bt x5 (wrap64 ((x5.size : Int) - 1))) = 13 then (some false) else (if bt123.1 ≥ 0 then (some false) else (haversacklaw13_clean.l0 k x3 x29 x30 (wrap64 (x31 + 1))))) else (none)) else (none)) else (if bt123.1 ≥ 0 then (some false) else (haversacklaw13_clean.l0 k x3 x29 x30 (wrap64 (x31 + 1))))))
end
def haversacklaw13_clean.f (k : Nat) (l0_0 : List ByteArray) (l0_1 : List ByteArray) : Option (Bool) := if (l0_0.length : Int) = (wrap64 ((l0_1.length : Int) + 1)) then (haversacklaw13_clean.j0 k (decide ((l0_1.length : Int) > 20)) l0_0 l0_1) else (haversacklaw13_clean.j0 k true l0_0 l0_1)
set_option maxHeartbeats 8000000 in
set_option maxRecDepth 100000 in
theorem haversacklaw13_clean.calls (k : Nat) (A0_0 : Option Addr) (c0_0 : Nat) (l0_0 : List ByteArray) (A0_1 : Option Addr) (c0_1 : Nat) (l0_1 : List ByteArray) (r : Bool) (w : World) (hr0_0 : Kd.C Kd.string w A0_0 l0_0.length l0_0) (hc0_0 : l0_0.length ≤ c0_0) (hr0_1 : Kd.C Kd.string w A0_1 l0_1.length l0_1) (hc0_1 : l0_1.length ≤ c0_1) (h : haversacklaw13_clean.f k l0_0 l0_1 = some r) :
  Calls Tryd.prog 14 #[.agg #[.slice A0_0 l0_0.length c0_0, .slice A0_1 l0_1.length c0_1]] w fun e w' => e = .returned (.bool r) ∧ Below w.heap.size w w' := by
 have hu37 := Tryd.underlying37
 have HR0_0 := Aside0.mk hr0_0
 have HC0_0 := Aside0.mk hc0_0
 clear hr0_0 hc0_0
 have HR0_1 := Aside0.mk hr0_1
 have HC0_1 := Aside0.mk hc0_1
 clear hr0_1 hc0_1
 have HB := Aside0.mk (Below.refl w.heap.size w)
 have H : (if (l0_0.length : Int) = (wrap64 ((l0_1.length : Int) + 1)) then (haversacklaw13_clean.j0 k (decide ((l0_1.length : Int) > 20)) l0_0 l0_1) else (haversacklaw13_clean.j0 k true l0_0 l0_1)) = some r := h
 clear h
 have HC2 := Aside0.mk H
 clear H
 go_enter Tryd.func14, Tryd.ntmps14
 go_upto_region 1 with (first | ((with_reducible refine gate_dst (N := 1) rfl ?_); (try (refine gate_guard (by rfl) ?_; dsimp only)); refine box_event ?hg (N := 1) ?hd (cs := #[.slice A0_0 l0_0.length c0_0, .slice A0_1 l0_1.length c0_1]) (t := 37) ?hr ?_; (case hd => rfl); (case hg => rfl); (case hr => first | (go_simp; done) | (go_simp; rfl)); intro gb121 hg w3 hbox hb; have n0_ := Aside0.mk (below_step (by repeat (first | (with_reducible first | exact HB.out | apply below_alloc | apply pw_below_drewN | apply below_drew1) | exact HB.out)) hb); have n1_ := Aside0.mk (hbox); have n2_ := Aside0.mk ((by rw [hg]; exact (below_size (by repeat (first | (with_reducible first | exact HB.out | apply below_alloc | apply pw_below_drewN | apply below_drew1) | exact HB.out))) : w.heap.size ≤ gb121)); have n3_ := Aside0.mk ((by rw [hg]; exact (below_size (by repeat (first | (with_reducible first | exact HB.out | apply below_alloc | apply pw_below_drewN | apply below_drew1) | exact HB.out))) : w.heap.size ≤ gb121)); clear HB; have HB := n0_; have BK121 := n1_; have GW121 := n2_; have GE121 := n3_; clear n0_ n1_ n2_ n3_; clear hb hbox hg))
 (try simp only [Act.put, List.setIfInBounds_toArray, List.set_cons_zero, List.set_cons_succ])
 go_cut [23] (fun v23 wc => ∃ (kq : Nat) (x23_1 : Bool), v23 = .bool x23_1 ∧ Aside0 (haversacklaw13_clean.j0 kq x23_1 l0_0 l0_1 = some r) ∧ Aside0 (kq ≤ k) ∧ Aside0 (wc.heap[gb121]? = some (.cells #[(.slice A0_0 l0_0.length c0_0), (.slice A0_1 l0_1.length c0_1)] 37 (0, 0))) ∧ Aside0 (Below w.heap.size w wc))
 case first =>
  have H := HC2.out
  clear HC2
  by_cases c4 : (l0_0.length : Int) = (wrap64 ((l0_1.length : Int) + 1))
  ·
   rw [if_pos c4] at H
   have c4b0 : ((l0_0.length : Int) == (wrap64 ((l0_1.length : Int) + 1))) = true := beq_iff_eq.mpr c4
   have c4b1 : ((l0_0.length : Int) != (wrap64 ((l0_1.length : Int) + 1))) = false := bne_eq_false_iff_eq.mpr c4
   clear c4
   (first | rw [c4b0] | (simp only [i64_w, i32_w]; rw [c4b0]) | skip)
   have H' := Aside0.mk H
   clear H
   have hcz5_0 : w3.cell? ⟨gb121, 0, none⟩ = some (.slice A0_0 l0_0.length c0_0) := (blk_cell BK121.out 0).trans rfl
   have hcz5_1 : w3.cell? ⟨gb121, 1, none⟩ = some (.slice A0_1 l0_1.length c0_1) := (blk_cell BK121.out 1).trans rfl
   have hfz5_0 := blk_frozen BK121.out 0
   have hfz5_1 := blk_frozen BK121.out 1
   go_wp2
   go_meet
   case rel => exact ⟨_, (decide ((l0_1.length : Int) > 20)), (by first | with_reducible rfl | (simp only [pps, Nat.reduceAdd, Int.toNat_natCast]; done) | rfl | (simp; done) | (simp [*]; done)), H', ⟨by first | omega | exact Nat.le_refl _⟩, ⟨by (with_reducible repeat (first | refine blk_drewN ?_ _ | refine blk_drew ?_ | refine blk_alloc ?_ _)); exact BK121.out⟩, ⟨by repeat (first | (with_reducible first | exact HB.out | apply below_alloc | apply pw_below_drewN | apply below_drew1 | refine below_set ?_ GE121.out) | exact HB.out)⟩⟩
  ·
   rw [if_neg c4] at H
   have c4b0 : ((l0_0.length : Int) == (wrap64 ((l0_1.length : Int) + 1))) = false := beq_eq_false_iff_ne.mpr c4
   have c4b1 : ((l0_0.length : Int) != (wrap64 ((l0_1.length : Int) + 1))) = true := bne_iff_ne.mpr c4
   (first | rw [c4b0] | (simp only [i64_w, i32_w]; rw [c4b0]) | skip)
   have H' := Aside0.mk H
   clear H
   have hcz6_0 : w3.cell? ⟨gb121, 0, none⟩ = some (.slice A0_0 l0_0.length c0_0) := (blk_cell BK121.out 0).trans rfl
   have hcz6_1 : w3.cell? ⟨gb121, 1, none⟩ = some (.slice A0_1 l0_1.length c0_1) := (blk_cell BK121.out 1).trans rfl
   have hfz6_0 := blk_frozen BK121.out 0
   have hfz6_1 := blk_frozen BK121.out 1
   go_wp2
   go_meet
   case rel => exact ⟨_, (true), (by first | with_reducible rfl | (simp only [pps, Nat.reduceAdd, Int.toNat_natCast]; done) | rfl | (simp; done) | (simp [*]; done)), H', ⟨by first | omega | exact Nat.le_refl _⟩, ⟨by (with_reducible repeat (first | refine blk_drewN ?_ _ | refine blk_drew ?_ | refine blk_alloc ?_ _)); exact BK121.out⟩, ⟨by repeat (first | (with_reducible first | exact HB.out | apply below_alloc | apply pw_below_drewN | apply below_drew1 | refine below_set ?_ GE121.out) | exact HB.out)⟩⟩
 case rest =>
  clear HC2
  try clear c1
  try clear p2
  try clear c4
  try clear c4b0
  try clear c4b1
  try clear p6
  try clear hcz5_0
  try clear hcz5_1
  try clear hcz6_0
  try clear hcz6_1
  try clear hfz5_0
  try clear hfz5_1
  try clear hfz6_0
  try clear hfz6_1
  obtain ⟨kq, x23_1, rfl, HA, HJ1, BK121, HB⟩ := hcut
  cases kq with
  | zero => exact absurd HA.out (by simp [haversacklaw13_clean.j0])
  | succ kj1 =>
   have H := HA.out
   clear HA
   simp only [haversacklaw13_clean.j0] at H
   by_cases c7 : x23_1 = true
   ·
    subst c7
    have H1 : (some false) = some r := by rw [if_pos rfl] at H; exact H
    clear H
    have H := H1
    clear H1
    obtain rfl := Option.some.inj H
    go_wp2
    go_ret
    exact ⟨by first | rfl | (simp [errW_none, errW_some] <;> rfl) | (simp [*, errW_none, errW_some] <;> rfl), by repeat (first | (with_reducible first | exact HB.out | apply below_alloc | apply pw_below_drewN | apply below_drew1 | refine below_set ?_ GE121.out) | exact HB.out)⟩
   ·
    replace c7 := Bool.eq_false_iff.mpr c7
    subst c7
    have H1 : (haversacklaw13_clean.l0 kj1 (wrap64 (8 * (l0_1.length : Int))) l0_0 (l0_0.length : Int) 0) = some r := by rw [if_neg (show ¬ (false = true) by decide)] at H; exact H
    clear H
    have H := H1
    clear H1
    have H' := Aside0.mk H
    clear H
    have hcz8_0 : wc.cell? ⟨gb121, 0, none⟩ = some (.slice A0_0 l0_0.length c0_0) := (blk_cell BK121.out 0).trans rfl
    have hcz8_1 : wc.cell? ⟨gb121, 1, none⟩ = some (.slice A0_1 l0_1.length c0_1) := (blk_cell BK121.out 1).trans rfl
    have hfz8_0 := blk_frozen BK121.out 0
    have hfz8_1 := blk_frozen BK121.out 1
    go_wp2
    go_loopg [3, 31] kj1 (fun kq v3 v31 w' => ∃ (x3_2 : Int) (x31_2 : Int), v3 = .int .i64 x3_2 ∧ v31 = .int .i64 x31_2 ∧ Aside0 (haversacklaw13_clean.l0 kq x3_2 l0_0 (l0_0.length : Int) x31_2 = some r) ∧ Aside0 (kq ≤ kj1) ∧ Aside0 (w'.heap[gb121]? = some (.cells #[(.slice A0_0 l0_0.length c0_0), (.slice A0_1 l0_1.length c0_1)] 37 (0, 0))) ∧ Aside0 (Below w.heap.size w w'))
    case atStart => exact ⟨(wrap64 (8 * (l0_1.length : Int))), (0), (by first | with_reducible rfl | (simp only [pps, Nat.reduceAdd, Int.toNat_natCast]; done) | rfl | (simp; done) | (simp [*]; done)), (by first | with_reducible rfl | (simp only [pps, Nat.reduceAdd, Int.toNat_natCast]; done) | rfl | (simp; done) | (simp [*]; done)), H', ⟨Nat.le_refl _⟩, ⟨by (with_reducible repeat (first | refine blk_drewN ?_ _ | refine blk_drew ?_ | refine blk_alloc ?_ _)); exact BK121.out⟩, ⟨by repeat (first | (with_reducible first | exact HB.out | apply below_alloc | apply pw_below_drewN | apply below_drew1 | refine below_set ?_ GE121.out) | exact HB.out)⟩⟩
    case round =>
     clear H'
     try clear c1
     try clear p2
     try clear c4
     try clear c4b0
     try clear c4b1
     try clear p6
     try clear c7
     try clear hcz5_0
     try clear hcz5_1
     try clear hcz6_0
     try clear hcz6_1
     try clear hcz8_0
     try clear hcz8_1
     try clear hfz5_0
     try clear hfz5_1
     try clear hfz6_0
     try clear hfz6_1
     try clear hfz8_0
     try clear hfz8_1
     try clear p2
     try clear p6
     obtain ⟨x3_2, x31_2, rfl, rfl, HA, HK2, BK121, HB⟩ := hrel
     cases gk with
     | zero => exact absurd HA.out (by simp [haversacklaw13_clean.l0])
     | succ k2 =>
      have H := HA.out
      clear HA
      simp only [haversacklaw13_clean.l0] at H
      by_cases c9 : x31_2 < (l0_0.length : Int)
      ·
       rw [if_pos c9] at H
       have c9b0 : decide (x31_2 < (l0_0.length : Int)) = true := decide_eq_true c9
       clear c9
       by_cases c10 : 0 ≤ x31_2
       ·
        rw [if_pos c10] at H
        have c10b0 : decide (0 ≤ x31_2) = true := decide_eq_true c10
        clear c10
        by_cases c11 : x31_2 < (l0_0.length : Int)
        ·
         rw [if_pos c11] at H
         have c11b0 : decide (x31_2 < (l0_0.length : Int)) = true := decide_eq_true c11
         clear c11
         have H' := Aside0.mk H
         clear H
         have p122 : 0 ≤ (x31_2 : Int) := of_decide_eq_true (by first | (with_reducible assumption) | assumption)
         have q122 : x31_2 < (l0_0.length : Int) := of_decide_eq_true (by first | (with_reducible assumption) | assumption)
         obtain ⟨ad122, e122, hx122_0⟩ := Kd.at_string HR0_0.out x31_2 p122 q122
         cases e122
         replace hx122_0 := (HB.out.cell (World.block_lt_of_cell? w _ hx122_0)).trans hx122_0
         replace p122 := eq_true p122
         replace q122 := eq_true q122
         go_wp2
         go_loopg [41] k2 (fun kq v41 w' => ∃ (x41_3 : Int), v41 = .int .i64 x41_3 ∧ Aside0 (haversacklaw13_clean.l1 kq (wrap64 (x3_2 + ((rdOf ByteArray.empty l0_0 x31_2).size : Int))) (rdOf ByteArray.empty l0_0 x31_2) l0_0 (l0_0.length : Int) x31_2 ((rdOf ByteArray.empty l0_0 x31_2).size : Int) x41_3 = some r) ∧ Aside0 (kq ≤ k2) ∧ Aside0 (w'.heap[gb121]? = some (.cells #[(.slice (some ad122) l0_0.length c0_0), (.slice A0_1 l0_1.length c0_1)] 37 (0, 0))) ∧ Aside0 (Below w.heap.size w w'))
         case atStart => exact ⟨(0), (by first | with_reducible rfl | (simp only [pps, Nat.reduceAdd, Int.toNat_natCast]; done) | rfl | (simp; done) | (simp [*]; done)), H', ⟨Nat.le_refl _⟩, ⟨by (with_reducible repeat (first | refine blk_drewN ?_ _ | refine blk_drew ?_ | refine blk_alloc ?_ _)); exact BK121.out⟩, ⟨by repeat (first | (with_reducible first | exact HB.out | apply below_alloc | apply pw_below_drewN | apply below_drew1 | refine below_set ?_ GE121.out) | exact HB.out)⟩⟩
         case round =>
          clear H'
          try clear c1
          try clear p1
          try clear q1
          try clear hx1
          try clear p2
          try clear c4
          try clear c4b0
          try clear c4b1
          try clear p6
          try clear c7
          try clear c9
          try clear c9b0
          try clear c10
          try clear c10b0
          try clear c11
          try clear c11b0
          try clear hcz5_0
          try clear hcz5_1
          try clear hcz6_0
          try clear hcz6_1
          try clear hcz8_0
          try clear hcz8_1
          try clear hfz5_0
          try clear hfz5_1
          try clear hfz6_0
          try clear hfz6_1
          try clear hfz8_0
          try clear hfz8_1
          try clear hx122_0
          try clear p122
          try clear p2
          try clear p6
          try clear q122
          obtain ⟨x41_3, rfl, HA, HK3, BK121, HB⟩ := hrel
          cases gk with
          | zero => exact absurd HA.out (by simp [haversacklaw13_clean.l1])
          | succ k3 =>
           have H := HA.out
           clear HA
           simp only [haversacklaw13_clean.l1] at H
           by_cases c12 : x41_3 < ((rdOf ByteArray.empty l0_0 x31_2).size : Int)
           ·
            rw [if_pos c12] at H
            have c12b0 : decide (x41_3 < ((rdOf ByteArray.empty l0_0 x31_2).size : Int)) = true := decide_eq_true c12
            clear c12
            by_cases c13 : 0 ≤ x41_3
            ·
             rw [if_pos c13] at H
             have c13b0 : decide (0 ≤ x41_3) = true := decide_eq_true c13
             clear c13
             by_cases c14 : x41_3 < ((rdOf ByteArray.empty l0_0 x31_2).size : Int)
             ·
              rw [if_pos c14] at H
              have c14b0 : decide (x41_3 < ((rdOf ByteArray.empty l0_0 x31_2).size : Int)) = true := decide_eq_true c14
              clear c14
              by_cases c16 : (bt (rdOf ByteArray.empty l0_0 x31_2) x41_3) = 10
              ·
               rw [if_pos c16] at H
               have c16b0 : ((bt (rdOf ByteArray.empty l0_0 x31_2) x41_3) == 10) = true := beq_iff_eq.mpr c16
               have c16b1 : ((bt (rdOf ByteArray.empty l0_0 x31_2) x41_3) != 10) = false := bne_eq_false_iff_eq.mpr c16
               clear c16
               obtain rfl := Option.some.inj H
               have p15 : 0 ≤ (x41_3 : Int) := of_decide_eq_true (by first | (with_reducible assumption) | assumption)
               have q15 : x41_3 < ((rdOf ByteArray.empty l0_0 x31_2).size : Int) := of_decide_eq_true (by first | (with_reducible assumption) | assumption)
               have hx15 := bt_at (rdOf ByteArray.empty l0_0 x31_2) x41_3
               replace p15 := eq_true p15
               replace q15 := eq_true q15
               go_wp2
               go_ret
               exact ⟨by first | rfl | (simp [errW_none, errW_some] <;> rfl) | (simp [*, errW_none, errW_some] <;> rfl), by repeat (first | (with_reducible first | exact HB.out | apply below_alloc | apply pw_below_drewN | apply below_drew1 | refine below_set ?_ GE121.out) | exact HB.out)⟩
              ·
               rw [if_neg c16] at H
               have c16b0 : ((bt (rdOf ByteArray.empty l0_0 x31_2) x41_3) == 10) = false := beq_eq_false_iff_ne.mpr c16
               have c16b1 : ((bt (rdOf ByteArray.empty l0_0 x31_2) x41_3) != 10) = true := bne_iff_ne.mpr c16
               have H' := Aside0.mk H
               clear H
               have p15 : 0 ≤ (x41_3 : Int) := of_decide_eq_true (by first | (with_reducible assumption) | assumption)
               have q15 : x41_3 < ((rdOf ByteArray.empty l0_0 x31_2).size : Int) := of_decide_eq_true (by first | (with_reducible assumption) | assumption)
               have hx15 := bt_at (rdOf ByteArray.empty l0_0 x31_2) x41_3
               replace p15 := eq_true p15
               replace q15 := eq_true q15
               go_wp2
               go_roundg k3
               case measure => have := HJ1.out; have := HK2.out; have := HK3.out; omega
               case rel => exact ⟨(wrap64 (x41_3 + 1)), (by first | with_reducible rfl | (simp only [pps, Nat.reduceAdd, Int.toNat_natCast]; done) | rfl | (simp; done) | (simp [*]; done)), H', ⟨by have := HJ1.out; have := HK2.out; have := HK3.out; omega⟩, ⟨by (with_reducible repeat (first | refine blk_drewN ?_ _ | refine blk_drew ?_ | refine blk_alloc ?_ _)); exact BK121.out⟩, ⟨by repeat (first | (with_reducible first | exact HB.out | apply below_alloc | apply pw_below_drewN | apply below_drew1 | refine below_set ?_ GE121.out) | exact HB.out)⟩⟩
             ·
              rw [if_neg c14] at H
              exact absurd H (by simp)
            ·
             rw [if_neg c13] at H
             exact absurd H (by simp)
           ·
            rw [if_neg c12] at H
            have c12b0 : decide (x41_3 < ((rdOf ByteArray.empty l0_0 x31_2).size : Int)) = false := decide_eq_false c12
            clear c12
            replace H := Option.bind_eq_some_iff.mp H
            obtain ⟨⟨t123, t124, t125⟩, A170, H⟩ := H
            replace H : (if ((rdOf ByteArray.empty l0_0 x31_2).size : Int) > 0 then (if 0 ≤ (wrap64 (((rdOf ByteArray.empty l0_0 x31_2).size : Int) - 1)) then (if (wrap64 (((rdOf ByteArray.empty l0_0 x31_2).size : Int) - 1)) < ((rdOf ByteArray.empty l0_0 x31_2).size : Int) then (if (bt (rdOf ByteArray.empty l0_0 x31_2) (wrap64 (((rdOf ByteArray.empty l0_0 x31_2).size : Int) - 1))) = 13 then (some false) else (if t123 ≥ 0 then (some false) else (haversacklaw13_clean.l0 k3 (wrap64 (x3_2 + ((rdOf ByteArray.empty l0_0 x31_2).size : Int))) l0_0 (l0_0.length : Int) (wrap64 (x31_2 + 1))))) else (none)) else (none)) else (if t123 ≥ 0 then (some false) else (haversacklaw13_clean.l0 k3 (wrap64 (x3_2 + ((rdOf ByteArray.empty l0_0 x31_2).size : Int))) l0_0 (l0_0.length : Int) (wrap64 (x31_2 + 1))))) = some r := H
            have A17 := Aside0.mk A170
            clear A170
            by_cases c18 : ((rdOf ByteArray.empty l0_0 x31_2).size : Int) > 0
            ·
             rw [if_pos c18] at H
             have c18b0 : decide (0 < ((rdOf ByteArray.empty l0_0 x31_2).size : Int)) = true := decide_eq_true c18
             have c18b1 : decide (0 < (rdOf ByteArray.empty l0_0 x31_2).size) = true := decide_eq_true (by omega)
             clear c18
             obtain ⟨ji19, hji19⟩ : ∃ j_ : Int, (wrap64 (((rdOf ByteArray.empty l0_0 x31_2).size : Int) - 1)) = j_ := ⟨_, rfl⟩
             replace H : (if 0 ≤ (ji19) then (if (ji19) < ((rdOf ByteArray.empty l0_0 x31_2).size : Int) then (if (bt (rdOf ByteArray.empty l0_0 x31_2) (ji19)) = 13 then (some false) else (if t123 ≥ 0 then (some false) else (haversacklaw13_clean.l0 k3 (wrap64 (x3_2 + ((rdOf ByteArray.empty l0_0 x31_2).size : Int))) l0_0 (l0_0.length : Int) (wrap64 (x31_2 + 1))))) else (none)) else (none)) = some r := by first | (rw [hji19] at H; exact H) | (simp only [hji19] at H ⊢; exact H)
             (try rw [hji19] at A17)
             have hji19w : (IntKind.i64.wrap (((rdOf ByteArray.empty l0_0 x31_2).size : Int) - 1)) = ji19 := (i64_w _).trans hji19
             by_cases c20 : 0 ≤ (ji19)
             ·
              rw [if_pos c20] at H
              have c20b0 : decide (0 ≤ (ji19)) = true := decide_eq_true c20
              clear c20
              by_cases c21 : (ji19) < ((rdOf ByteArray.empty l0_0 x31_2).size : Int)
              ·
               rw [if_pos c21] at H
               have c21b0 : decide ((ji19) < ((rdOf ByteArray.empty l0_0 x31_2).size : Int)) = true := decide_eq_true c21
               clear c21
               by_cases c23 : (bt (rdOf ByteArray.empty l0_0 x31_2) (ji19)) = 13
               ·
                rw [if_pos c23] at H
                have c23b0 : ((bt (rdOf ByteArray.empty l0_0 x31_2) (ji19)) == 13) = true := beq_iff_eq.mpr c23
                have c23b1 : ((bt (rdOf ByteArray.empty l0_0 x31_2) (ji19)) != 13) = false := bne_eq_false_iff_eq.mpr c23
                clear c23
                obtain rfl := Option.some.inj H
                go_wp2_with (first | ((with_reducible refine gate_callee (f := 20) rfl ?_); refine goesL_ (some 51) rfl rfl Tryd.func20 (by kernel_rfl) rfl #[.string (rdOf ByteArray.empty l0_0 x31_2)] rfl (by (try simp only [List.map_toArray, List.map_cons, List.map_nil]); first | done | rfl | (simp only [List.length_drop, List.length_take]; rfl)) ?_; (with_reducible refine (haversackref13_Mark.calls k3 (rdOf ByteArray.empty l0_0 x31_2) t123 t124 t125 _ A17.out).mono ?_); rintro e w' ⟨rfl, ⟨nd, rfl⟩⟩; refine ⟨_, rfl, ?_⟩; have p22 : 0 ≤ ((ji19) : Int) := of_decide_eq_true (by first | (with_reducible assumption) | assumption); have q22 : (ji19) < ((rdOf ByteArray.empty l0_0 x31_2).size : Int) := of_decide_eq_true (by first | (with_reducible assumption) | assumption); have hx22 := bt_at (rdOf ByteArray.empty l0_0 x31_2) (ji19); replace p22 := eq_true p22; replace q22 := eq_true q22))
                go_ret
                exact ⟨by first | rfl | (simp [errW_none, errW_some] <;> rfl) | (simp only [← hji19]; first | rfl | (simp [errW_none, errW_some] <;> rfl)) | (simp [*, errW_none, errW_some] <;> rfl), by repeat (first | (with_reducible first | exact HB.out | apply below_alloc | apply pw_below_drewN | apply below_drew1 | refine below_set ?_ GE121.out) | exact HB.out)⟩
               ·
                rw [if_neg c23] at H
                have c23b0 : ((bt (rdOf ByteArray.empty l0_0 x31_2) (ji19)) == 13) = false := beq_eq_false_iff_ne.mpr c23
                have c23b1 : ((bt (rdOf ByteArray.empty l0_0 x31_2) (ji19)) != 13) = true := bne_iff_ne.mpr c23
                by_cases c24 : t123 ≥ 0
                ·
                 rw [if_pos c24] at H
                 have c24b0 : decide (0 ≤ t123) = true := decide_eq_true c24
                 clear c24
                 obtain rfl := Option.some.inj H
                 go_wp2_with (first | ((with_reducible refine gate_callee (f := 20) rfl ?_); refine goesL_ (some 51) rfl rfl Tryd.func20 (by kernel_rfl) rfl #[.string (rdOf ByteArray.empty l0_0 x31_2)] rfl (by (try simp only [List.map_toArray, List.map_cons, List.map_nil]); first | done | rfl | (simp only [List.length_drop, List.length_take]; rfl)) ?_; (with_reducible refine (haversackref13_Mark.calls k3 (rdOf ByteArray.empty l0_0 x31_2) t123 t124 t125 _ A17.out).mono ?_); rintro e w' ⟨rfl, ⟨nd, rfl⟩⟩; refine ⟨_, rfl, ?_⟩; have p22 : 0 ≤ ((ji19) : Int) := of_decide_eq_true (by first | (with_reducible assumption) | assumption); have q22 : (ji19) < ((rdOf ByteArray.empty l0_0 x31_2).size : Int) := of_decide_eq_true (by first | (with_reducible assumption) | assumption); have hx22 := bt_at (rdOf ByteArray.empty l0_0 x31_2) (ji19); replace p22 := eq_true p22; replace q22 := eq_true q22))
                 go_ret
                 exact ⟨by first | rfl | (simp [errW_none, errW_some] <;> rfl) | (simp only [← hji19]; first | rfl | (simp [errW_none, errW_some] <;> rfl)) | (simp [*, errW_none, errW_some] <;> rfl), by repeat (first | (with_reducible first | exact HB.out | apply below_alloc | apply pw_below_drewN | apply below_drew1 | refine below_set ?_ GE121.out) | exact HB.out)⟩
                ·
                 rw [if_neg c24] at H
                 have c24b0 : decide (0 ≤ t123) = false := decide_eq_false c24
                 clear c24
                 have H' := Aside0.mk H
                 clear H
                 go_wp2_with (first | ((with_reducible refine gate_callee (f := 20) rfl ?_); refine goesL_ (some 51) rfl rfl Tryd.func20 (by kernel_rfl) rfl #[.string (rdOf ByteArray.empty l0_0 x31_2)] rfl (by (try simp only [List.map_toArray, List.map_cons, List.map_nil]); first | done | rfl | (simp only [List.length_drop, List.length_take]; rfl)) ?_; (with_reducible refine (haversackref13_Mark.calls k3 (rdOf ByteArray.empty l0_0 x31_2) t123 t124 t125 _ A17.out).mono ?_); rintro e w' ⟨rfl, ⟨nd, rfl⟩⟩; refine ⟨_, rfl, ?_⟩; have p22 : 0 ≤ ((ji19) : Int) := of_decide_eq_true (by first | (with_reducible assumption) | assumption); have q22 : (ji19) < ((rdOf ByteArray.empty l0_0 x31_2).size : Int) := of_decide_eq_true (by first | (with_reducible assumption) | assumption); have hx22 := bt_at (rdOf ByteArray.empty l0_0 x31_2) (ji19); replace p22 := eq_true p22; replace q22 := eq_true q22))
                 go_roundg k3
                 case measure => have := HJ1.out; have := HK2.out; have := HK3.out; omega
                 case rel => exact ⟨((wrap64 (x3_2 + ((rdOf ByteArray.empty l0_0 x31_2).size : Int)))), (wrap64 (x31_2 + 1)), (by first | with_reducible rfl | (simp only [pps, Nat.reduceAdd, Int.toNat_natCast]; done) | rfl | (simp; done) | (simp [*]; done)), (by first | with_reducible rfl | (simp only [pps, Nat.reduceAdd, Int.toNat_natCast]; done) | rfl | (simp; done) | (simp [*]; done)), H', ⟨by have := HJ1.out; have := HK2.out; have := HK3.out; omega⟩, ⟨by (with_reducible repeat (first | refine blk_drewN ?_ _ | refine blk_drew ?_ | refine blk_alloc ?_ _)); exact BK121.out⟩, ⟨by repeat (first | (with_reducible first | exact HB.out | apply below_alloc | apply pw_below_drewN | apply below_drew1 | refine below_set ?_ GE121.out) | exact HB.out)⟩⟩
              ·
               rw [if_neg c21] at H
               exact absurd H (by simp)
             ·
              rw [if_neg c20] at H
              exact absurd H (by simp)
            ·
             rw [if_neg c18] at H
             have c18b0 : decide (0 < ((rdOf ByteArray.empty l0_0 x31_2).size : Int)) = false := decide_eq_false c18
             have c18b1 : decide (0 < (rdOf ByteArray.empty l0_0 x31_2).size) = false := decide_eq_false (by omega)
             clear c18
             by_cases c25 : t123 ≥ 0
             ·
              rw [if_pos c25] at H
              have c25b0 : decide (0 ≤ t123) = true := decide_eq_true c25
              clear c25
              obtain rfl := Option.some.inj H
              go_wp2_with (first | ((with_reducible refine gate_callee (f := 20) rfl ?_); refine goesL_ (some 51) rfl rfl Tryd.func20 (by kernel_rfl) rfl #[.string (rdOf ByteArray.empty l0_0 x31_2)] rfl (by (try simp only [List.map_toArray, List.map_cons, List.map_nil]); first | done | rfl | (simp only [List.length_drop, List.length_take]; rfl)) ?_; (with_reducible refine (haversackref13_Mark.calls k3 (rdOf ByteArray.empty l0_0 x31_2) t123 t124 t125 _ A17.out).mono ?_); rintro e w' ⟨rfl, ⟨nd, rfl⟩⟩; refine ⟨_, rfl, ?_⟩))
              go_ret
              exact ⟨by first | rfl | (simp [errW_none, errW_some] <;> rfl) | (simp [*, errW_none, errW_some] <;> rfl), by repeat (first | (with_reducible first | exact HB.out | apply below_alloc | apply pw_below_drewN | apply below_drew1 | refine below_set ?_ GE121.out) | exact HB.out)⟩
             ·
              rw [if_neg c25] at H
              have c25b0 : decide (0 ≤ t123) = false := decide_eq_false c25
              clear c25
              have H' := Aside0.mk H
              clear H
              go_wp2_with (first | ((with_reducible refine gate_callee (f := 20) rfl ?_); refine goesL_ (some 51) rfl rfl Tryd.func20 (by kernel_rfl) rfl #[.string (rdOf ByteArray.empty l0_0 x31_2)] rfl (by (try simp only [List.map_toArray, List.map_cons, List.map_nil]); first | done | rfl | (simp only [List.length_drop, List.length_take]; rfl)) ?_; (with_reducible refine (haversackref13_Mark.calls k3 (rdOf ByteArray.empty l0_0 x31_2) t123 t124 t125 _ A17.out).mono ?_); rintro e w' ⟨rfl, ⟨nd, rfl⟩⟩; refine ⟨_, rfl, ?_⟩))
              go_roundg k3
              case measure => have := HJ1.out; have := HK2.out; have := HK3.out; omega
              case rel => exact ⟨((wrap64 (x3_2 + ((rdOf ByteArray.empty l0_0 x31_2).size : Int)))), (wrap64 (x31_2 + 1)), (by first | with_reducible rfl | (simp only [pps, Nat.reduceAdd, Int.toNat_natCast]; done) | rfl | (simp; done) | (simp [*]; done)), (by first | with_reducible rfl | (simp only [pps, Nat.reduceAdd, Int.toNat_natCast]; done) | rfl | (simp; done) | (simp [*]; done)), H', ⟨by have := HJ1.out; have := HK2.out; have := HK3.out; omega⟩, ⟨by (with_reducible repeat (first | refine blk_drewN ?_ _ | refine blk_drew ?_ | refine blk_alloc ?_ _)); exact BK121.out⟩, ⟨by repeat (first | (with_reducible first | exact HB.out | apply below_alloc | apply pw_below_drewN | apply below_drew1 | refine below_set ?_ GE121.out) | exact HB.out)⟩⟩
        ·
         rw [if_neg c11] at H
         exact absurd H (by simp)
       ·
        rw [if_neg c10] at H
        exact absurd H (by simp)
      ·
       rw [if_neg c9] at H
       have c9b0 : decide (x31_2 < (l0_0.length : Int)) = false := decide_eq_false c9
       clear c9
       obtain rfl := Option.some.inj H
       go_wp2
       go_ret
       exact ⟨by first | rfl | (simp [errW_none, errW_some] <;> rfl) | (simp [*, errW_none, errW_some] <;> rfl), by repeat (first | (with_reducible first | exact HB.out | apply below_alloc | apply pw_below_drewN | apply below_drew1 | refine below_set ?_ GE121.out) | exact HB.out)⟩
end Go.Proofs.YtakfdmhoooeejaaDoor.PP
