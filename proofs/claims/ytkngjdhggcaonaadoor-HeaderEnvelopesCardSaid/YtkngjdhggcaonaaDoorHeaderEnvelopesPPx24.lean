/- YtkngjdhggcaonaaDoorPPx24, as far as HeaderEnvelopes needs it (prune.py). -/
import Derived.Test.YtkngjdhggcaonaaDoorHeaderEnvelopesPPx0
namespace Go.Proofs.YtkngjdhggcaonaaDoor.PP
open Go.RowKit Go.Proofs.YtkngjdhggcaonaaDoorW.PrintWords Go.Proofs.YtkngjdhggcaonaaDoorW.PrintLast Go.Proofs.YtkngjdhggcaonaaDoorW.PrintMore
attribute [local go_sem] max2_int min2_int max_two min_two max_three min_three max_four min_four   -- for this text's walks alone
open Go.Proofs.YtkngjdhggcaonaaDoor.My
set_option linter.unusedVariables false
set_option linter.unusedSimpArgs false
mutual
def haversackref10_Marks.l0 : Nat → ByteArray → List (S74) → Bool → Bool → Int → Int → Option ((List (S74)))
 | 0, _, _, _, _, _, _ => none
 | k + 1, x0, x3, x4, x5, x6, x7 => if x7 < (x0.size : Int) then (if 0 ≤ x7 then (if (bt x0 x7) = 92 then (haversackref10_Marks.j1 k x0 x3 x4 x5 x6 x7 (decide ((wrap64 (x7 + 1)) < (x0.size : Int))) (bt x0 x7) 0) else (haversackref10_Marks.j1 k x0 x3 x4 x5 x6 x7 false (bt x0 x7) 0)) else (none)) else (some x3)
def haversackref10_Marks.j1 : Nat → ByteArray → List (S74) → Bool → Bool → Int → Int → Bool → Int → Int → Option ((List (S74)))
 | 0, _, _, _, _, _, _, _, _, _ => none
 | k + 1, x0, x3, x4, x5, x6, x7, x9, x227000, x227001 => if x6 > 0 then (if 0 ≤ x7 then (if x7 < (x0.size : Int) then (if (bt x0 x7) = 92 then (if x3.length < 8796093022208 then ((some (x3 ++ [(⟨x227000, 1⟩ : S74)] : List (S74))).bind fun y227 => (if y227.length < 8796093022208 then (haversackref10_Marks.l0 k x0 (y227 ++ [(⟨x227000, 1⟩ : S74)]) x4 x5 x6 (wrap64 ((wrap64 (x7 + 1)) + 1))) else (none))) else (none)) else (if (bt x0 x7) = 40 then (if x3.length < 8796093022208 then (haversackref10_Marks.l0 k x0 (x3 ++ [(⟨x227000, 1⟩ : S74)]) x4 x5 (wrap64 (x6 + 1)) (wrap64 (x7 + 1))) else (none)) else (if (bt x0 x7) = 41 then (if x3.length < 8796093022208 then (haversackref10_Marks.l0 k x0 (x3 ++ [(⟨x227000, 1⟩ : S74)]) x4 x5 (wrap64 (x6 - 1)) (wrap64 (x7 + 1))) else (none)) else (if x3.length < 8796093022208 then (haversackref10_Marks.l0 k x0 (x3 ++ [(⟨x227000, 1⟩ : S74)]) x4 x5 x6 (wrap64 (x7 + 1))) else (none))))) else (none)) else (none)) else (if x4 = true then (haversackref10_Marks.j2 k x0 x3 x4 x5 x6 x7 x9 x227000 x227001) else (haversackref10_Marks.j2 k x0 x3 x4 x5 x6 x7 false x227000 x227001))
def haversackref10_Marks.j2 : Nat → ByteArray → List (S74) → Bool → Bool → Int → Int → Bool → Int → Int → Option ((List (S74)))
 | 0, _, _, _, _, _, _, _, _, _ => none
 | k + 1, x0, x3, x4, x5, x6, x7, x57, x227000, x227001 => if x57 = true then (if 0 ≤ x7 then (if x7 < (x0.size : Int) then (if x3.length < 8796093022208 then ((some (x3 ++ [(⟨bt x0 x7, 1⟩ : S74)] : List (S74))).bind fun y242 => (if 0 ≤ (wrap64 (x7 + 1)) then (if (wrap64 (x7 + 1)) < (x0.size : Int) then (if y242.length < 8796093022208 then (haversackref10_Marks.l0 k x0 (y242 ++ [(⟨bt x0 (wrap64 (x7 + 1)), x227001⟩ : S74)]) x4 x5 x6 (wrap64 ((wrap64 (x7 + 1)) + 1))) else (none)) else (none)) else (none))) else (none)) else (none)) else (none)) else (if 0 ≤ x7 then (if x7 < (x0.size : Int) then (if (bt x0 x7) = 34 then (if x3.length < 8796093022208 then (haversackref10_Marks.l0 k x0 (x3 ++ [(⟨x227000, 1⟩ : S74)]) (!x4) x5 x6 (wrap64 (x7 + 1))) else (none)) else (if x4 = true then (if x3.length < 8796093022208 then (haversackref10_Marks.l0 k x0 (x3 ++ [(⟨x227000, x227001⟩ : S74)]) x4 x5 x6 (wrap64 (x7 + 1))) else (none)) else (if (bt x0 x7) = 40 then (if x3.length < 8796093022208 then (haversackref10_Marks.l0 k x0 (x3 ++ [(⟨x227000, 1⟩ : S74)]) x4 x5 1 (wrap64 (x7 + 1))) else (none)) else (if (bt x0 x7) = 60 then (haversackref10_Marks.j3 k x0 x3 x4 x5 x6 x7 (!x5) x227000 x227001) else (haversackref10_Marks.j3 k x0 x3 x4 x5 x6 x7 false x227000 x227001))))) else (none)) else (none))
def haversackref10_Marks.j3 : Nat → ByteArray → List (S74) → Bool → Bool → Int → Int → Bool → Int → Int → Option ((List (S74)))
 | 0, _, _, _, _, _, _, _, _, _ => none
 | k + 1, x0, x3, x4, x5, x6, x7, x91, x227000, x227001 => if x91 = true then (if x3.length < 8796093022208 then (haversackref10_Marks.l0 k x0 (x3 ++ [(⟨x227000, 2⟩ : S74)]) x4 true x6 (wrap64 (x7 + 1))) else (none)) else (if 0 ≤ x7 then (if x7 < (x0.size : Int) then (if (bt x0 x7) = 62 then (haversackref10_Marks.j4 k x0 x3 x4 x5 x6 x7 x5 x227000 x227001) else (haversackref10_Marks.j4 k x0 x3 x4 x5 x6 x7 false x227000 x227001)) else (none)) else (none))
def haversackref10_Marks.j4 : Nat → ByteArray → List (S74) → Bool → Bool → Int → Int → Bool → Int → Int → Option ((List (S74)))
 | 0, _, _, _, _, _, _, _, _, _ => none
 | k + 1, x0, x3, x4, x5, x6, x7, x101, x227000, x227001 => if x101 = true then (if x3.length < 8796093022208 then (haversackref10_Marks.l0 k x0 (x3 ++ [(⟨x227000, 3⟩ : S74)]) x4 false x6 (wrap64 (x7 + 1))) else (none)) else (if 0 ≤ x7 then (if x7 < (x0.size : Int) then (if (bt x0 x7) = 44 then (if x5 = true then (if x3.length < 8796093022208 then (haversackref10_Marks.l0 k x0 (x3 ++ [(⟨x227000, x227001⟩ : S74)]) x4 x5 x6 (wrap64 (x7 + 1))) else (none)) else (if x3.length < 8796093022208 then (haversackref10_Marks.l0 k x0 (x3 ++ [(⟨x227000, 4⟩ : S74)]) x4 x5 x6 (wrap64 (x7 + 1))) else (none))) else (if x3.length < 8796093022208 then (haversackref10_Marks.l0 k x0 (x3 ++ [(⟨x227000, x227001⟩ : S74)]) x4 x5 x6 (wrap64 (x7 + 1))) else (none))) else (none)) else (none))
end
def haversackref10_Marks.f (k : Nat) (a0 : ByteArray) : Option ((List (S74))) := haversackref10_Marks.l0 k a0 ([] : List (S74)) false false 0 0
set_option maxHeartbeats 8000000 in
set_option maxRecDepth 100000 in
theorem haversackref10_Marks.calls (k : Nat) (a0 : ByteArray) (r : List (S74)) (w : World) (h : haversackref10_Marks.f k a0 = some r) :
  Calls Tryd.prog 43 #[.string a0] w fun e w' => ∃ v0_ : Value, e = .returned (v0_) ∧ Kd.R k74 74 w' w.heap.size (fun _ => True) v0_ r ∧ Below w.heap.size w w' := by
 have hu74 := Tryd.underlying74
 have HB := Aside0.mk (Below.refl w.heap.size w)
 have H : (haversackref10_Marks.l0 k a0 ([] : List (S74)) false false 0 0) = some r := h
 clear h
 have H' := Aside0.mk H
 clear H
 go_enter Tryd.func43, Tryd.ntmps43
 go_wp2
 go_loopg [3, 4, 5, 6, 7] k (fun kq v3 v4 v5 v6 v7 w' => ∃ (x3_1 : List (S74)) (x4_1 : Bool) (x5_1 : Bool) (x6_1 : Int) (x7_1 : Int), v4 = .bool x4_1 ∧ v5 = .bool x5_1 ∧ v6 = .int .i64 x6_1 ∧ v7 = .int .i64 x7_1 ∧ Aside0 (haversackref10_Marks.l0 kq a0 x3_1 x4_1 x5_1 x6_1 x7_1 = some r) ∧ Aside0 (kq ≤ k) ∧ Aside0 (Kd.R k74 74 w' w.heap.size (fun _ => True) v3 x3_1) ∧ Aside0 (Below w.heap.size w w'))
 case atStart => exact ⟨(([] : List (S74))), (false), (false), (0), (0), (by first | with_reducible rfl | (simp only [pps, Nat.reduceAdd, Int.toNat_natCast]; done) | rfl | (simp; done) | (simp [*]; done)), (by first | with_reducible rfl | (simp only [pps, Nat.reduceAdd, Int.toNat_natCast]; done) | rfl | (simp; done) | (simp [*]; done)), (by first | with_reducible rfl | (simp only [pps, Nat.reduceAdd, Int.toNat_natCast]; done) | rfl | (simp; done) | (simp [*]; done)), (by first | with_reducible rfl | (simp only [pps, Nat.reduceAdd, Int.toNat_natCast]; done) | rfl | (simp; done) | (simp [*]; done)), H', ⟨Nat.le_refl _⟩, ⟨by first | exact Kd.R_nil _ _ _ _ _ | exact Kd.N_nil _ _ _ _ _ | exact Kd.V_nil _ _ _ _ _ | exact Kd.Q_nil _ _ _ _ _ | exact Kd.S_nil _ _ _ _ _⟩, ⟨by repeat (first | (with_reducible first | exact HB.out | apply below_alloc | apply pw_below_drewN | apply below_drew1) | exact HB.out)⟩⟩
 case round =>
  clear H'
  obtain ⟨x3_1, x4_1, x5_1, x6_1, x7_1, rfl, rfl, rfl, rfl, HA, HK1, HO_3, HB⟩ := hrel
  cases gk with
  | zero => exact absurd HA.out (by simp [haversackref10_Marks.l0])
  | succ k1 =>
   have H := HA.out
   clear HA
   simp only [haversackref10_Marks.l0] at H
   by_cases c2 : x7_1 < (a0.size : Int)
   ·
    rw [if_pos c2] at H
    have c2b0 : decide (x7_1 < (a0.size : Int)) = true := decide_eq_true c2
    clear c2
    by_cases c3 : 0 ≤ x7_1
    ·
     rw [if_pos c3] at H
     have c3b0 : decide (0 ≤ x7_1) = true := decide_eq_true c3
     clear c3
     have HC5 := Aside0.mk H
     clear H
     have p4 : 0 ≤ (x7_1 : Int) := of_decide_eq_true (by first | (with_reducible assumption) | assumption)
     have q4 : x7_1 < (a0.size : Int) := of_decide_eq_true (by first | (with_reducible assumption) | assumption)
     have hx4 := bt_at a0 x7_1
     replace p4 := eq_true p4
     replace q4 := eq_true q4
     go_upto_region 8 with (first | ((with_reducible refine gate_dst (N := 8) rfl ?_); (try (refine gate_guard (by rfl) ?_; dsimp only)); refine box_event ?hg (N := 8) ?hd (cs := #[.int .u8 0, .int .i64 0]) (t := 74) ?hr ?_; (case hd => rfl); (case hg => rfl); (case hr => first | (go_simp; done) | (go_simp; rfl)); intro gb226 hg w6 hbox hb; have n0_ := Aside0.mk (Kd.R_below (Kd.R_elderB (by (with_reducible repeat (first | apply Kd.R_alloc | apply Kd.R_drewN | apply Kd.R_drew)); exact HO_3.out) gb226 (Nat.le_of_eq hg.symm)) hb); have n1_ := Aside0.mk (below_step (by repeat (first | (with_reducible first | exact HB.out | apply below_alloc | apply pw_below_drewN | apply below_drew1) | exact HB.out)) hb); have n2_ := Aside0.mk (hbox); have n3_ := Aside0.mk ((by rw [hg]; exact (below_size (by repeat (first | (with_reducible first | exact HB.out | apply below_alloc | apply pw_below_drewN | apply below_drew1) | exact HB.out))) : w.heap.size ≤ gb226)); have n4_ := Aside0.mk ((by rw [hg]; exact (below_size (by repeat (first | (with_reducible first | exact HB.out | apply below_alloc | apply pw_below_drewN | apply below_drew1) | exact HB.out))) : w.heap.size ≤ gb226)); clear HO_3; clear HB; have HO_3 := n0_; have HB := n1_; have BK226 := n2_; have GW226 := n3_; have GE226 := n4_; clear n0_ n1_ n2_ n3_ n4_; clear hb hbox hg; have hcz7_0 : w6.cell? ⟨gb226, 0, none⟩ = some (.int .u8 0) := (blk_cell BK226.out 0).trans rfl; have hcz7_1 : w6.cell? ⟨gb226, 1, none⟩ = some (.int .i64 0) := (blk_cell BK226.out 1).trans rfl; have hfz7_0 := blk_frozen BK226.out 0; have hfz7_1 := blk_frozen BK226.out 1))
     (try simp only [Act.put, List.setIfInBounds_toArray, List.set_cons_zero, List.set_cons_succ])
     go_cut [9] (fun v9 wc => ∃ (kq : Nat) (x9_4 : Bool), v9 = .bool x9_4 ∧ Aside0 (haversackref10_Marks.j1 kq a0 x3_1 x4_1 x5_1 x6_1 x7_1 x9_4 (bt a0 x7_1) 0 = some r) ∧ Aside0 (kq ≤ k1) ∧ Aside0 (Kd.R k74 74 wc w.heap.size (fun k_ => k_ ≠ gb226) u3 x3_1) ∧ Aside0 (wc.heap[gb226]? = some (.cells #[.int .u8 (bt a0 x7_1), .int .i64 0] 74 (0, 0))) ∧ Aside0 (Below w.heap.size w wc))
     case first =>
      have H := HC5.out
      clear HC5
      by_cases c9 : (bt a0 x7_1) = 92
      ·
       rw [if_pos c9] at H
       have c9b0 : ((bt a0 x7_1) == 92) = true := beq_iff_eq.mpr c9
       have c9b1 : ((bt a0 x7_1) != 92) = false := bne_eq_false_iff_eq.mpr c9
       clear c9
       (first | rw [c9b0] | (simp only [i64_w, i32_w]; rw [c9b0]) | skip)
       have H' := Aside0.mk H
       clear H
       have p8 : 0 ≤ (x7_1 : Int) := of_decide_eq_true (by first | (with_reducible assumption) | assumption)
       have q8 : x7_1 < (a0.size : Int) := of_decide_eq_true (by first | (with_reducible assumption) | assumption)
       have hx8 := bt_at a0 x7_1
       replace p8 := eq_true p8
       replace q8 := eq_true q8
       go_wp2
       go_meet
       case rel => exact ⟨_, (decide ((wrap64 (x7_1 + 1)) < (a0.size : Int))), (by first | with_reducible rfl | (simp only [pps, Nat.reduceAdd, Int.toNat_natCast]; done) | rfl | (simp; done) | (simp [*]; done)), H', ⟨by have := HK1.out; first | omega | exact Nat.le_refl _⟩, ⟨by (with_reducible repeat (first | apply Kd.R_alloc | apply Kd.R_drewN | apply Kd.R_drew)); exact Kd.R_mono (Kd.R_far (p := ⟨gb226, 1, none⟩) (Kd.R_far (p := ⟨gb226, 0, none⟩) (Kd.R_mono HO_3.out (fun k_ hk => (⟨hk, hk.2⟩ : _ ∧ k_ ≠ gb226))) (fun _ hk => hk.2) (.int .u8 (bt a0 x7_1))) (fun _ hk => hk.2) (.int .i64 0)) (fun _ hk => hk.1.2)⟩, ⟨by (with_reducible repeat (first | refine blk_drewN ?_ _ | refine blk_drew ?_ | refine blk_alloc ?_ _)); refine blk_put (cs := #[.int .u8 (bt a0 x7_1), .int .i64 0]) ?_ 1 _ rfl; (with_reducible repeat (first | refine blk_drewN ?_ _ | refine blk_drew ?_ | refine blk_alloc ?_ _)); refine blk_put (cs := #[.int .u8 0, .int .i64 0]) ?_ 0 _ rfl; (with_reducible repeat (first | refine blk_drewN ?_ _ | refine blk_drew ?_ | refine blk_alloc ?_ _)); exact BK226.out⟩, ⟨by repeat (first | (with_reducible first | exact HB.out | apply below_alloc | apply pw_below_drewN | apply below_drew1 | refine below_set ?_ GE226.out) | exact HB.out)⟩⟩
      ·
       rw [if_neg c9] at H
       have c9b0 : ((bt a0 x7_1) == 92) = false := beq_eq_false_iff_ne.mpr c9
       have c9b1 : ((bt a0 x7_1) != 92) = true := bne_iff_ne.mpr c9
       (first | rw [c9b0] | (simp only [i64_w, i32_w]; rw [c9b0]) | skip)
       have H' := Aside0.mk H
       clear H
       have p8 : 0 ≤ (x7_1 : Int) := of_decide_eq_true (by first | (with_reducible assumption) | assumption)
       have q8 : x7_1 < (a0.size : Int) := of_decide_eq_true (by first | (with_reducible assumption) | assumption)
       have hx8 := bt_at a0 x7_1
       replace p8 := eq_true p8
       replace q8 := eq_true q8
       go_wp2
       go_meet
       case rel => exact ⟨_, (false), (by first | with_reducible rfl | (simp only [pps, Nat.reduceAdd, Int.toNat_natCast]; done) | rfl | (simp; done) | (simp [*]; done)), H', ⟨by have := HK1.out; first | omega | exact Nat.le_refl _⟩, ⟨by (with_reducible repeat (first | apply Kd.R_alloc | apply Kd.R_drewN | apply Kd.R_drew)); exact Kd.R_mono (Kd.R_far (p := ⟨gb226, 1, none⟩) (Kd.R_far (p := ⟨gb226, 0, none⟩) (Kd.R_mono HO_3.out (fun k_ hk => (⟨hk, hk.2⟩ : _ ∧ k_ ≠ gb226))) (fun _ hk => hk.2) (.int .u8 (bt a0 x7_1))) (fun _ hk => hk.2) (.int .i64 0)) (fun _ hk => hk.1.2)⟩, ⟨by (with_reducible repeat (first | refine blk_drewN ?_ _ | refine blk_drew ?_ | refine blk_alloc ?_ _)); refine blk_put (cs := #[.int .u8 (bt a0 x7_1), .int .i64 0]) ?_ 1 _ rfl; (with_reducible repeat (first | refine blk_drewN ?_ _ | refine blk_drew ?_ | refine blk_alloc ?_ _)); refine blk_put (cs := #[.int .u8 0, .int .i64 0]) ?_ 0 _ rfl; (with_reducible repeat (first | refine blk_drewN ?_ _ | refine blk_drew ?_ | refine blk_alloc ?_ _)); exact BK226.out⟩, ⟨by repeat (first | (with_reducible first | exact HB.out | apply below_alloc | apply pw_below_drewN | apply below_drew1 | refine below_set ?_ GE226.out) | exact HB.out)⟩⟩
     case rest =>
      clear HC5
      try clear c2
      try clear c2b0
      try clear p2
      try clear c3
      try clear c3b0
      try clear c4
      try clear p4
      try clear q4
      try clear hx4
      try clear p6
      try clear p8
      try clear q8
      try clear hx8
      try clear c9
      try clear c9b0
      try clear c9b1
      try clear hcz7_0
      try clear hcz7_1
      try clear hfz7_0
      try clear hfz7_1
      try clear p4
      try clear p8
      try clear q4
      try clear q8
      obtain ⟨kq, x9_4, rfl, HA, HJ4, HO_3, BK226, HB⟩ := hcut
      cases kq with
      | zero => exact absurd HA.out (by simp [haversackref10_Marks.j1])
      | succ kj4 =>
       have H := HA.out
       clear HA
       simp only [haversackref10_Marks.j1] at H
       by_cases c10 : x6_1 > 0
       ·
        rw [if_pos c10] at H
        have c10b0 : decide (0 < x6_1) = true := decide_eq_true c10
        clear c10
        by_cases c11 : 0 ≤ x7_1
        ·
         rw [if_pos c11] at H
         have c11b0 : decide (0 ≤ x7_1) = true := decide_eq_true c11
         clear c11
         by_cases c12 : x7_1 < (a0.size : Int)
         ·
          rw [if_pos c12] at H
          have c12b0 : decide (x7_1 < (a0.size : Int)) = true := decide_eq_true c12
          clear c12
          by_cases c14 : (bt a0 x7_1) = 92
          ·
           rw [if_pos c14] at H
           have c14b0 : ((bt a0 x7_1) == 92) = true := beq_iff_eq.mpr c14
           have c14b1 : ((bt a0 x7_1) != 92) = false := bne_eq_false_iff_eq.mpr c14
           clear c14
           by_cases c15 : x3_1.length < 8796093022208
           ·
            rw [if_pos c15] at H
            have LMc15 := Aside0.mk c15
            clear c15
            obtain ⟨y227, hy227⟩ : ∃ y_ : List (S74), y_ = (x3_1 ++ [(⟨(bt a0 x7_1), 1⟩ : S74)]) := ⟨_, rfl⟩
            replace H : (if y227.length < 8796093022208 then (haversackref10_Marks.l0 kj4 a0 (y227 ++ [(⟨(bt a0 x7_1), 1⟩ : S74)]) x4_1 x5_1 x6_1 (wrap64 ((wrap64 (x7_1 + 1)) + 1))) else (none)) = some r := by first | (rw [hy227]; with_reducible exact H) | (have H2_ := (Option.bind_some _ _).symm.trans H; rw [hy227]; with_reducible exact H2_) | (have H2_ := (Option.bind_some _ _).symm.trans H; with_reducible exact H2_) | with_reducible exact H | (rw [hy227]; exact H) | exact H
            have Ny227 := Aside0.mk hy227
            clear hy227
            by_cases c16 : y227.length < 8796093022208
            ·
             rw [if_pos c16] at H
             have LMc16 := Aside0.mk c16
             clear c16
             obtain ⟨y230, hy230⟩ : ∃ y_ : List (S74), y_ = (y227 ++ [(⟨(bt a0 x7_1), 1⟩ : S74)]) := ⟨_, rfl⟩
             replace H : (haversackref10_Marks.l0 kj4 a0 y230 x4_1 x5_1 x6_1 (wrap64 ((wrap64 (x7_1 + 1)) + 1))) = some r := by first | (rw [hy230]; with_reducible exact H) | (have H2_ := (Option.bind_some _ _).symm.trans H; rw [hy230]; with_reducible exact H2_) | (have H2_ := (Option.bind_some _ _).symm.trans H; with_reducible exact H2_) | with_reducible exact H | (rw [hy230]; exact H) | exact H
             have Ny230 := Aside0.mk hy230
             clear hy230
             have H' := Aside0.mk H
             clear H
             have hcz17_0 : wc.cell? ⟨gb226, 0, none⟩ = some (.int .u8 (bt a0 x7_1)) := (blk_cell BK226.out 0).trans rfl
             have hcz17_1 : wc.cell? ⟨gb226, 1, none⟩ = some (.int .i64 0) := (blk_cell BK226.out 1).trans rfl
             have hfz17_0 := blk_frozen BK226.out 0
             have hfz17_1 := blk_frozen BK226.out 1
             have p13 : 0 ≤ (x7_1 : Int) := of_decide_eq_true (by first | (with_reducible assumption) | assumption)
             have q13 : x7_1 < (a0.size : Int) := of_decide_eq_true (by first | (with_reducible assumption) | assumption)
             have hx13 := bt_at a0 x7_1
             replace p13 := eq_true p13
             replace q13 := eq_true q13
             go_wp2_with (first | ((with_reducible refine gate_builtin (b := .append) (xs := #[.tmp 39, .tmp 41]) rfl ?_); (try (refine gate_guard (by rfl) ?_; dsimp only)); at_builtin; refine Kd.R_append k74 (w0 := w) w.heap.size rfl (.tmp 39) (.tmp 41) 71 74 (.agg #[(.int .u8 0), (.int .i64 0)]) 16 rfl Tryd.underlying71 info74 rfl (by decide) (by omega) u3 x3_1 (⟨(bt a0 x7_1), 1⟩ : S74) [.int .u8 (bt a0 x7_1), .int .i64 1] (fun k_ => k_ ≠ gb226) (fun _ => False) rfl (by first | (go_simp; done) | (go_simp; rfl)) ?aP (fun _ hk => hk.elim) ?aF ?aO ?aB ?aS ?aL ?_; (case aP => exact k74_mkM _ _ _ (⟨(bt a0 x7_1), 1⟩ : S74)); (case aB => exact (by repeat (first | (with_reducible first | exact HB.out | apply below_alloc | apply pw_below_drewN | apply below_drew1 | refine below_set ?_ GE226.out) | exact HB.out))); (case aF => exact (fun k_ hk => Kd.freshB (g := gb226) (o := .cells #[.int .u8 (bt a0 x7_1), .int .i64 1] 74 (0, 0)) (by (with_reducible repeat (first | refine blk_drewN ?_ _ | refine blk_drew ?_ | refine blk_alloc ?_ _)); refine blk_put (cs := #[.int .u8 (bt a0 x7_1), .int .i64 0]) ?_ 1 _ rfl; (with_reducible repeat (first | refine blk_drewN ?_ _ | refine blk_drew ?_ | refine blk_alloc ?_ _)); exact BK226.out) k_ hk)); (case aO => exact (by (with_reducible repeat (first | apply Kd.R_alloc | apply Kd.R_drewN | apply Kd.R_drew)); exact Kd.R_mono (Kd.R_far (p := ⟨gb226, 1, none⟩) (Kd.R_mono HO_3.out (fun k_ hk => (⟨hk, hk⟩ : _ ∧ k_ ≠ gb226))) (fun _ hk => hk.2) (.int .i64 1)) (fun _ hk => hk.1))); (case aS => exact (below_size (by repeat (first | (with_reducible first | exact HB.out | apply below_alloc | apply pw_below_drewN | apply below_drew1 | refine below_set ?_ GE226.out) | exact HB.out)))); (case aL => have := LMc15.out; omega); intro v228 w18 ho hb hg hat; rw [← Ny227.out] at ho; have n0_ := Aside0.mk (blk_grown (g := gb226) (o := .cells #[.int .u8 (bt a0 x7_1), .int .i64 1] 74 (0, 0)) (by (with_reducible repeat (first | refine blk_drewN ?_ _ | refine blk_drew ?_ | refine blk_alloc ?_ _)); refine blk_put (cs := #[.int .u8 (bt a0 x7_1), .int .i64 0]) ?_ 1 _ rfl; (with_reducible repeat (first | refine blk_drewN ?_ _ | refine blk_drew ?_ | refine blk_alloc ?_ _)); exact BK226.out) hg (Kd.R_away HO_3.out (fun _ hk => hk))); have n1_ := Aside0.mk (hb); have n2_ := Aside0.mk (ho); clear BK226; clear HB; clear HO_3; have BK226 := n0_; have HB := n1_; have HO229 := n2_; clear n0_ n1_ n2_; clear ho hb hg hat; have hcz19_0 : w18.cell? ⟨gb226, 0, none⟩ = some (.int .u8 (bt a0 x7_1)) := (blk_cell BK226.out 0).trans rfl; have hcz19_1 : w18.cell? ⟨gb226, 1, none⟩ = some (.int .i64 1) := (blk_cell BK226.out 1).trans rfl; have hfz19_0 := blk_frozen BK226.out 0; have hfz19_1 := blk_frozen BK226.out 1) | ((with_reducible refine gate_builtin (b := .append) (xs := #[.tmp 120, .tmp 122]) rfl ?_); (try (refine gate_guard (by rfl) ?_; dsimp only)); at_builtin; refine Kd.R_append k74 (w0 := w) w.heap.size rfl (.tmp 120) (.tmp 122) 71 74 (.agg #[(.int .u8 0), (.int .i64 0)]) 16 rfl Tryd.underlying71 info74 rfl (by decide) (by omega) v228 y227 (⟨(bt a0 x7_1), 1⟩ : S74) [.int .u8 (bt a0 x7_1), .int .i64 1] (fun k_ => k_ ≠ gb226) (fun _ => False) rfl rfl ?aP (fun _ hk => hk.elim) ?aF ?aO ?aB ?aS ?aL ?_; (case aP => exact k74_mkM _ _ _ (⟨(bt a0 x7_1), 1⟩ : S74)); (case aB => exact (by repeat (first | (with_reducible first | exact HB.out | apply below_alloc | apply pw_below_drewN | apply below_drew1 | refine below_set ?_ GE226.out) | exact HB.out))); (case aF => exact (fun k_ hk => Kd.freshB (g := gb226) (o := .cells #[.int .u8 (bt a0 x7_1), .int .i64 1] 74 (0, 0)) (by (with_reducible repeat (first | refine blk_drewN ?_ _ | refine blk_drew ?_ | refine blk_alloc ?_ _)); exact BK226.out) k_ hk)); (case aO => exact (by (with_reducible repeat (first | apply Kd.R_alloc | apply Kd.R_drewN | apply Kd.R_drew)); exact HO229.out)); (case aS => exact (below_size (by repeat (first | (with_reducible first | exact HB.out | apply below_alloc | apply pw_below_drewN | apply below_drew1 | refine below_set ?_ GE226.out) | exact HB.out)))); (case aL => have := LMc16.out; omega); intro v231 w20 ho hb hg hat; rw [← Ny230.out] at ho; have n0_ := Aside0.mk (blk_grown (g := gb226) (o := .cells #[.int .u8 (bt a0 x7_1), .int .i64 1] 74 (0, 0)) (by (with_reducible repeat (first | refine blk_drewN ?_ _ | refine blk_drew ?_ | refine blk_alloc ?_ _)); exact BK226.out) hg (Kd.R_away HO229.out (fun _ hk => hk))); have n1_ := Aside0.mk (hb); have n2_ := Aside0.mk (ho); clear BK226; clear HB; clear HO229; have BK226 := n0_; have HB := n1_; have HO232 := n2_; clear n0_ n1_ n2_; clear ho hb hg hat))
             go_roundg kj4
             case measure => have := HK1.out; have := HJ4.out; omega
             case rel => exact ⟨(y230), (x4_1), (x5_1), (x6_1), (wrap64 ((wrap64 (x7_1 + 1)) + 1)), (by first | with_reducible rfl | (simp only [pps, Nat.reduceAdd, Int.toNat_natCast]; done) | rfl | (simp; done) | (simp [*]; done)), (by first | with_reducible rfl | (simp only [pps, Nat.reduceAdd, Int.toNat_natCast]; done) | rfl | (simp; done) | (simp [*]; done)), (by first | with_reducible rfl | (simp only [pps, Nat.reduceAdd, Int.toNat_natCast]; done) | rfl | (simp; done) | (simp [*]; done)), (by first | with_reducible rfl | (simp only [pps, Nat.reduceAdd, Int.toNat_natCast]; done) | rfl | (simp; done) | (simp [*]; done)), H', ⟨by have := HK1.out; have := HJ4.out; omega⟩, ⟨by (with_reducible repeat (first | apply Kd.R_alloc | apply Kd.R_drewN | apply Kd.R_drew)); exact Kd.R_mono HO232.out (fun _ hk => trivial)⟩, ⟨by repeat (first | (with_reducible first | exact HB.out | apply below_alloc | apply pw_below_drewN | apply below_drew1 | refine below_set ?_ GE226.out) | exact HB.out)⟩⟩
            ·
             rw [if_neg c16] at H
             exact absurd H (by simp)
           ·
            rw [if_neg c15] at H
            exact absurd H (by simp)
          ·
           rw [if_neg c14] at H
           have c14b0 : ((bt a0 x7_1) == 92) = false := beq_eq_false_iff_ne.mpr c14
           have c14b1 : ((bt a0 x7_1) != 92) = true := bne_iff_ne.mpr c14
           by_cases c22 : (bt a0 x7_1) = 40
           ·
            rw [if_pos c22] at H
            have c22b0 : ((bt a0 x7_1) == 40) = true := beq_iff_eq.mpr c22
            have c22b1 : ((bt a0 x7_1) != 40) = false := bne_eq_false_iff_eq.mpr c22
            clear c22
            by_cases c23 : x3_1.length < 8796093022208
            ·
             rw [if_pos c23] at H
             have LMc23 := Aside0.mk c23
             clear c23
             obtain ⟨y233, hy233⟩ : ∃ y_ : List (S74), y_ = (x3_1 ++ [(⟨(bt a0 x7_1), 1⟩ : S74)]) := ⟨_, rfl⟩
             replace H : (haversackref10_Marks.l0 kj4 a0 y233 x4_1 x5_1 (wrap64 (x6_1 + 1)) (wrap64 (x7_1 + 1))) = some r := by first | (rw [hy233]; with_reducible exact H) | (have H2_ := (Option.bind_some _ _).symm.trans H; rw [hy233]; with_reducible exact H2_) | (have H2_ := (Option.bind_some _ _).symm.trans H; with_reducible exact H2_) | with_reducible exact H | (rw [hy233]; exact H) | exact H
             have Ny233 := Aside0.mk hy233
             clear hy233
             have H' := Aside0.mk H
             clear H
             have hcz24_0 : wc.cell? ⟨gb226, 0, none⟩ = some (.int .u8 (bt a0 x7_1)) := (blk_cell BK226.out 0).trans rfl
             have hcz24_1 : wc.cell? ⟨gb226, 1, none⟩ = some (.int .i64 0) := (blk_cell BK226.out 1).trans rfl
             have hfz24_0 := blk_frozen BK226.out 0
             have hfz24_1 := blk_frozen BK226.out 1
             have p13 : 0 ≤ (x7_1 : Int) := of_decide_eq_true (by first | (with_reducible assumption) | assumption)
             have q13 : x7_1 < (a0.size : Int) := of_decide_eq_true (by first | (with_reducible assumption) | assumption)
             have hx13 := bt_at a0 x7_1
             replace p13 := eq_true p13
             replace q13 := eq_true q13
             have p21 : 0 ≤ (x7_1 : Int) := of_decide_eq_true (by first | (with_reducible assumption) | assumption)
             have q21 : x7_1 < (a0.size : Int) := of_decide_eq_true (by first | (with_reducible assumption) | assumption)
             have hx21 := bt_at a0 x7_1
             replace p21 := eq_true p21
             replace q21 := eq_true q21
             go_wp2_with (first | ((with_reducible refine gate_builtin (b := .append) (xs := #[.tmp 120, .tmp 122]) rfl ?_); (try (refine gate_guard (by rfl) ?_; dsimp only)); at_builtin; refine Kd.R_append k74 (w0 := w) w.heap.size rfl (.tmp 120) (.tmp 122) 71 74 (.agg #[(.int .u8 0), (.int .i64 0)]) 16 rfl Tryd.underlying71 info74 rfl (by decide) (by omega) u3 x3_1 (⟨(bt a0 x7_1), 1⟩ : S74) [.int .u8 (bt a0 x7_1), .int .i64 1] (fun k_ => k_ ≠ gb226) (fun _ => False) rfl (by first | (go_simp; done) | (go_simp; rfl)) ?aP (fun _ hk => hk.elim) ?aF ?aO ?aB ?aS ?aL ?_; (case aP => exact k74_mkM _ _ _ (⟨(bt a0 x7_1), 1⟩ : S74)); (case aB => exact (by repeat (first | (with_reducible first | exact HB.out | apply below_alloc | apply pw_below_drewN | apply below_drew1 | refine below_set ?_ GE226.out) | exact HB.out))); (case aF => exact (fun k_ hk => Kd.freshB (g := gb226) (o := .cells #[.int .u8 (bt a0 x7_1), .int .i64 1] 74 (0, 0)) (by (with_reducible repeat (first | refine blk_drewN ?_ _ | refine blk_drew ?_ | refine blk_alloc ?_ _)); refine blk_put (cs := #[.int .u8 (bt a0 x7_1), .int .i64 0]) ?_ 1 _ rfl; (with_reducible repeat (first | refine blk_drewN ?_ _ | refine blk_drew ?_ | refine blk_alloc ?_ _)); exact BK226.out) k_ hk)); (case aO => exact (by (with_reducible repeat (first | apply Kd.R_alloc | apply Kd.R_drewN | apply Kd.R_drew)); exact Kd.R_mono (Kd.R_far (p := ⟨gb226, 1, none⟩) (Kd.R_mono HO_3.out (fun k_ hk => (⟨hk, hk⟩ : _ ∧ k_ ≠ gb226))) (fun _ hk => hk.2) (.int .i64 1)) (fun _ hk => hk.1))); (case aS => exact (below_size (by repeat (first | (with_reducible first | exact HB.out | apply below_alloc | apply pw_below_drewN | apply below_drew1 | refine below_set ?_ GE226.out) | exact HB.out)))); (case aL => have := LMc23.out; omega); intro v234 w25 ho hb hg hat; rw [← Ny233.out] at ho; have n0_ := Aside0.mk (blk_grown (g := gb226) (o := .cells #[.int .u8 (bt a0 x7_1), .int .i64 1] 74 (0, 0)) (by (with_reducible repeat (first | refine blk_drewN ?_ _ | refine blk_drew ?_ | refine blk_alloc ?_ _)); refine blk_put (cs := #[.int .u8 (bt a0 x7_1), .int .i64 0]) ?_ 1 _ rfl; (with_reducible repeat (first | refine blk_drewN ?_ _ | refine blk_drew ?_ | refine blk_alloc ?_ _)); exact BK226.out) hg (Kd.R_away HO_3.out (fun _ hk => hk))); have n1_ := Aside0.mk (hb); have n2_ := Aside0.mk (ho); clear BK226; clear HB; clear HO_3; have BK226 := n0_; have HB := n1_; have HO235 := n2_; clear n0_ n1_ n2_; clear ho hb hg hat))
             go_roundg kj4
             case measure => have := HK1.out; have := HJ4.out; omega
             case rel => exact ⟨(y233), (x4_1), (x5_1), (wrap64 (x6_1 + 1)), (wrap64 (x7_1 + 1)), (by first | with_reducible rfl | (simp only [pps, Nat.reduceAdd, Int.toNat_natCast]; done) | rfl | (simp; done) | (simp [*]; done)), (by first | with_reducible rfl | (simp only [pps, Nat.reduceAdd, Int.toNat_natCast]; done) | rfl | (simp; done) | (simp [*]; done)), (by first | with_reducible rfl | (simp only [pps, Nat.reduceAdd, Int.toNat_natCast]; done) | rfl | (simp; done) | (simp [*]; done)), (by first | with_reducible rfl | (simp only [pps, Nat.reduceAdd, Int.toNat_natCast]; done) | rfl | (simp; done) | (simp [*]; done)), H', ⟨by have := HK1.out; have := HJ4.out; omega⟩, ⟨by (with_reducible repeat (first | apply Kd.R_alloc | apply Kd.R_drewN | apply Kd.R_drew)); exact Kd.R_mono HO235.out (fun _ hk => trivial)⟩, ⟨by repeat (first | (with_reducible first | exact HB.out | apply below_alloc | apply pw_below_drewN | apply below_drew1 | refine below_set ?_ GE226.out) | exact HB.out)⟩⟩
            ·
             rw [if_neg c23] at H
             exact absurd H (by simp)
           ·
            rw [if_neg c22] at H
            have c22b0 : ((bt a0 x7_1) == 40) = false := beq_eq_false_iff_ne.mpr c22
            have c22b1 : ((bt a0 x7_1) != 40) = true := bne_iff_ne.mpr c22
            by_cases c27 : (bt a0 x7_1) = 41
            ·
             rw [if_pos c27] at H
             have c27b0 : ((bt a0 x7_1) == 41) = true := beq_iff_eq.mpr c27
             have c27b1 : ((bt a0 x7_1) != 41) = false := bne_eq_false_iff_eq.mpr c27
             clear c27
             by_cases c28 : x3_1.length < 8796093022208
             ·
              rw [if_pos c28] at H
              have LMc28 := Aside0.mk c28
              clear c28
              obtain ⟨y236, hy236⟩ : ∃ y_ : List (S74), y_ = (x3_1 ++ [(⟨(bt a0 x7_1), 1⟩ : S74)]) := ⟨_, rfl⟩
              replace H : (haversackref10_Marks.l0 kj4 a0 y236 x4_1 x5_1 (wrap64 (x6_1 - 1)) (wrap64 (x7_1 + 1))) = some r := by first | (rw [hy236]; with_reducible exact H) | (have H2_ := (Option.bind_some _ _).symm.trans H; rw [hy236]; with_reducible exact H2_) | (have H2_ := (Option.bind_some _ _).symm.trans H; with_reducible exact H2_) | with_reducible exact H | (rw [hy236]; exact H) | exact H
              have Ny236 := Aside0.mk hy236
              clear hy236
              have H' := Aside0.mk H
              clear H
              have hcz29_0 : wc.cell? ⟨gb226, 0, none⟩ = some (.int .u8 (bt a0 x7_1)) := (blk_cell BK226.out 0).trans rfl
              have hcz29_1 : wc.cell? ⟨gb226, 1, none⟩ = some (.int .i64 0) := (blk_cell BK226.out 1).trans rfl
              have hfz29_0 := blk_frozen BK226.out 0
              have hfz29_1 := blk_frozen BK226.out 1
              have p13 : 0 ≤ (x7_1 : Int) := of_decide_eq_true (by first | (with_reducible assumption) | assumption)
              have q13 : x7_1 < (a0.size : Int) := of_decide_eq_true (by first | (with_reducible assumption) | assumption)
              have hx13 := bt_at a0 x7_1
              replace p13 := eq_true p13
              replace q13 := eq_true q13
              have p21 : 0 ≤ (x7_1 : Int) := of_decide_eq_true (by first | (with_reducible assumption) | assumption)
              have q21 : x7_1 < (a0.size : Int) := of_decide_eq_true (by first | (with_reducible assumption) | assumption)
              have hx21 := bt_at a0 x7_1
              replace p21 := eq_true p21
              replace q21 := eq_true q21
              have p26 : 0 ≤ (x7_1 : Int) := of_decide_eq_true (by first | (with_reducible assumption) | assumption)
              have q26 : x7_1 < (a0.size : Int) := of_decide_eq_true (by first | (with_reducible assumption) | assumption)
              have hx26 := bt_at a0 x7_1
              replace p26 := eq_true p26
              replace q26 := eq_true q26
              go_wp2_with (first | ((with_reducible refine gate_builtin (b := .append) (xs := #[.tmp 120, .tmp 122]) rfl ?_); (try (refine gate_guard (by rfl) ?_; dsimp only)); at_builtin; refine Kd.R_append k74 (w0 := w) w.heap.size rfl (.tmp 120) (.tmp 122) 71 74 (.agg #[(.int .u8 0), (.int .i64 0)]) 16 rfl Tryd.underlying71 info74 rfl (by decide) (by omega) u3 x3_1 (⟨(bt a0 x7_1), 1⟩ : S74) [.int .u8 (bt a0 x7_1), .int .i64 1] (fun k_ => k_ ≠ gb226) (fun _ => False) rfl (by first | (go_simp; done) | (go_simp; rfl)) ?aP (fun _ hk => hk.elim) ?aF ?aO ?aB ?aS ?aL ?_; (case aP => exact k74_mkM _ _ _ (⟨(bt a0 x7_1), 1⟩ : S74)); (case aB => exact (by repeat (first | (with_reducible first | exact HB.out | apply below_alloc | apply pw_below_drewN | apply below_drew1 | refine below_set ?_ GE226.out) | exact HB.out))); (case aF => exact (fun k_ hk => Kd.freshB (g := gb226) (o := .cells #[.int .u8 (bt a0 x7_1), .int .i64 1] 74 (0, 0)) (by (with_reducible repeat (first | refine blk_drewN ?_ _ | refine blk_drew ?_ | refine blk_alloc ?_ _)); refine blk_put (cs := #[.int .u8 (bt a0 x7_1), .int .i64 0]) ?_ 1 _ rfl; (with_reducible repeat (first | refine blk_drewN ?_ _ | refine blk_drew ?_ | refine blk_alloc ?_ _)); exact BK226.out) k_ hk)); (case aO => exact (by (with_reducible repeat (first | apply Kd.R_alloc | apply Kd.R_drewN | apply Kd.R_drew)); exact Kd.R_mono (Kd.R_far (p := ⟨gb226, 1, none⟩) (Kd.R_mono HO_3.out (fun k_ hk => (⟨hk, hk⟩ : _ ∧ k_ ≠ gb226))) (fun _ hk => hk.2) (.int .i64 1)) (fun _ hk => hk.1))); (case aS => exact (below_size (by repeat (first | (with_reducible first | exact HB.out | apply below_alloc | apply pw_below_drewN | apply below_drew1 | refine below_set ?_ GE226.out) | exact HB.out)))); (case aL => have := LMc28.out; omega); intro v237 w30 ho hb hg hat; rw [← Ny236.out] at ho; have n0_ := Aside0.mk (blk_grown (g := gb226) (o := .cells #[.int .u8 (bt a0 x7_1), .int .i64 1] 74 (0, 0)) (by (with_reducible repeat (first | refine blk_drewN ?_ _ | refine blk_drew ?_ | refine blk_alloc ?_ _)); refine blk_put (cs := #[.int .u8 (bt a0 x7_1), .int .i64 0]) ?_ 1 _ rfl; (with_reducible repeat (first | refine blk_drewN ?_ _ | refine blk_drew ?_ | refine blk_alloc ?_ _)); exact BK226.out) hg (Kd.R_away HO_3.out (fun _ hk => hk))); have n1_ := Aside0.mk (hb); have n2_ := Aside0.mk (ho); clear BK226; clear HB; clear HO_3; have BK226 := n0_; have HB := n1_; have HO238 := n2_; clear n0_ n1_ n2_; clear ho hb hg hat))
              go_roundg kj4
              case measure => have := HK1.out; have := HJ4.out; omega
              case rel => exact ⟨(y236), (x4_1), (x5_1), (wrap64 (x6_1 - 1)), (wrap64 (x7_1 + 1)), (by first | with_reducible rfl | (simp only [pps, Nat.reduceAdd, Int.toNat_natCast]; done) | rfl | (simp; done) | (simp [*]; done)), (by first | with_reducible rfl | (simp only [pps, Nat.reduceAdd, Int.toNat_natCast]; done) | rfl | (simp; done) | (simp [*]; done)), (by first | with_reducible rfl | (simp only [pps, Nat.reduceAdd, Int.toNat_natCast]; done) | rfl | (simp; done) | (simp [*]; done)), (by first | with_reducible rfl | (simp only [pps, Nat.reduceAdd, Int.toNat_natCast]; done) | rfl | (simp; done) | (simp [*]; done)), H', ⟨by have := HK1.out; have := HJ4.out; omega⟩, ⟨by (with_reducible repeat (first | apply Kd.R_alloc | apply Kd.R_drewN | apply Kd.R_drew)); exact Kd.R_mono HO238.out (fun _ hk => trivial)⟩, ⟨by repeat (first | (with_reducible first | exact HB.out | apply below_alloc | apply pw_below_drewN | apply below_drew1 | refine below_set ?_ GE226.out) | exact HB.out)⟩⟩
             ·
              rw [if_neg c28] at H
              exact absurd H (by simp)
            ·
             rw [if_neg c27] at H
             have c27b0 : ((bt a0 x7_1) == 41) = false := beq_eq_false_iff_ne.mpr c27
             have c27b1 : ((bt a0 x7_1) != 41) = true := bne_iff_ne.mpr c27
             by_cases c31 : x3_1.length < 8796093022208
             ·
              rw [if_pos c31] at H
              have LMc31 := Aside0.mk c31
              clear c31
              obtain ⟨y239, hy239⟩ : ∃ y_ : List (S74), y_ = (x3_1 ++ [(⟨(bt a0 x7_1), 1⟩ : S74)]) := ⟨_, rfl⟩
              replace H : (haversackref10_Marks.l0 kj4 a0 y239 x4_1 x5_1 x6_1 (wrap64 (x7_1 + 1))) = some r := by first | (rw [hy239]; with_reducible exact H) | (have H2_ := (Option.bind_some _ _).symm.trans H; rw [hy239]; with_reducible exact H2_) | (have H2_ := (Option.bind_some _ _).symm.trans H; with_reducible exact H2_) | with_reducible exact H | (rw [hy239]; exact H) | exact H
              have Ny239 := Aside0.mk hy239
              clear hy239
              have H' := Aside0.mk H
              clear H
              have hcz32_0 : wc.cell? ⟨gb226, 0, none⟩ = some (.int .u8 (bt a0 x7_1)) := (blk_cell BK226.out 0).trans rfl
              have hcz32_1 : wc.cell? ⟨gb226, 1, none⟩ = some (.int .i64 0) := (blk_cell BK226.out 1).trans rfl
              have hfz32_0 := blk_frozen BK226.out 0
              have hfz32_1 := blk_frozen BK226.out 1
              have p13 : 0 ≤ (x7_1 : Int) := of_decide_eq_true (by first | (with_reducible assumption) | assumption)
              have q13 : x7_1 < (a0.size : Int) := of_decide_eq_true (by first | (with_reducible assumption) | assumption)
              have hx13 := bt_at a0 x7_1
              replace p13 := eq_true p13
              replace q13 := eq_true q13
              have p21 : 0 ≤ (x7_1 : Int) := of_decide_eq_true (by first | (with_reducible assumption) | assumption)
              have q21 : x7_1 < (a0.size : Int) := of_decide_eq_true (by first | (with_reducible assumption) | assumption)
              have hx21 := bt_at a0 x7_1
              replace p21 := eq_true p21
              replace q21 := eq_true q21
              have p26 : 0 ≤ (x7_1 : Int) := of_decide_eq_true (by first | (with_reducible assumption) | assumption)
              have q26 : x7_1 < (a0.size : Int) := of_decide_eq_true (by first | (with_reducible assumption) | assumption)
              have hx26 := bt_at a0 x7_1
              replace p26 := eq_true p26
              replace q26 := eq_true q26
              go_wp2_with (first | ((with_reducible refine gate_builtin (b := .append) (xs := #[.tmp 120, .tmp 122]) rfl ?_); (try (refine gate_guard (by rfl) ?_; dsimp only)); at_builtin; refine Kd.R_append k74 (w0 := w) w.heap.size rfl (.tmp 120) (.tmp 122) 71 74 (.agg #[(.int .u8 0), (.int .i64 0)]) 16 rfl Tryd.underlying71 info74 rfl (by decide) (by omega) u3 x3_1 (⟨(bt a0 x7_1), 1⟩ : S74) [.int .u8 (bt a0 x7_1), .int .i64 1] (fun k_ => k_ ≠ gb226) (fun _ => False) rfl (by first | (go_simp; done) | (go_simp; rfl)) ?aP (fun _ hk => hk.elim) ?aF ?aO ?aB ?aS ?aL ?_; (case aP => exact k74_mkM _ _ _ (⟨(bt a0 x7_1), 1⟩ : S74)); (case aB => exact (by repeat (first | (with_reducible first | exact HB.out | apply below_alloc | apply pw_below_drewN | apply below_drew1 | refine below_set ?_ GE226.out) | exact HB.out))); (case aF => exact (fun k_ hk => Kd.freshB (g := gb226) (o := .cells #[.int .u8 (bt a0 x7_1), .int .i64 1] 74 (0, 0)) (by (with_reducible repeat (first | refine blk_drewN ?_ _ | refine blk_drew ?_ | refine blk_alloc ?_ _)); refine blk_put (cs := #[.int .u8 (bt a0 x7_1), .int .i64 0]) ?_ 1 _ rfl; (with_reducible repeat (first | refine blk_drewN ?_ _ | refine blk_drew ?_ | refine blk_alloc ?_ _)); exact BK226.out) k_ hk)); (case aO => exact (by (with_reducible repeat (first | apply Kd.R_alloc | apply Kd.R_drewN | apply Kd.R_drew)); exact Kd.R_mono (Kd.R_far (p := ⟨gb226, 1, none⟩) (Kd.R_mono HO_3.out (fun k_ hk => (⟨hk, hk⟩ : _ ∧ k_ ≠ gb226))) (fun _ hk => hk.2) (.int .i64 1)) (fun _ hk => hk.1))); (case aS => exact (below_size (by repeat (first | (with_reducible first | exact HB.out | apply below_alloc | apply pw_below_drewN | apply below_drew1 | refine below_set ?_ GE226.out) | exact HB.out)))); (case aL => have := LMc31.out; omega); intro v240 w33 ho hb hg hat; rw [← Ny239.out] at ho; have n0_ := Aside0.mk (blk_grown (g := gb226) (o := .cells #[.int .u8 (bt a0 x7_1), .int .i64 1] 74 (0, 0)) (by (with_reducible repeat (first | refine blk_drewN ?_ _ | refine blk_drew ?_ | refine blk_alloc ?_ _)); refine blk_put (cs := #[.int .u8 (bt a0 x7_1), .int .i64 0]) ?_ 1 _ rfl; (with_reducible repeat (first | refine blk_drewN ?_ _ | refine blk_drew ?_ | refine blk_alloc ?_ _)); exact BK226.out) hg (Kd.R_away HO_3.out (fun _ hk => hk))); have n1_ := Aside0.mk (hb); have n2_ := Aside0.mk (ho); clear BK226; clear HB; clear HO_3; have BK226 := n0_; have HB := n1_; have HO241 := n2_; clear n0_ n1_ n2_; clear ho hb hg hat))
              go_roundg kj4
              case measure => have := HK1.out; have := HJ4.out; omega
              case rel => exact ⟨(y239), (x4_1), (x5_1), (x6_1), (wrap64 (x7_1 + 1)), (by first | with_reducible rfl | (simp only [pps, Nat.reduceAdd, Int.toNat_natCast]; done) | rfl | (simp; done) | (simp [*]; done)), (by first | with_reducible rfl | (simp only [pps, Nat.reduceAdd, Int.toNat_natCast]; done) | rfl | (simp; done) | (simp [*]; done)), (by first | with_reducible rfl | (simp only [pps, Nat.reduceAdd, Int.toNat_natCast]; done) | rfl | (simp; done) | (simp [*]; done)), (by first | with_reducible rfl | (simp only [pps, Nat.reduceAdd, Int.toNat_natCast]; done) | rfl | (simp; done) | (simp [*]; done)), H', ⟨by have := HK1.out; have := HJ4.out; omega⟩, ⟨by (with_reducible repeat (first | apply Kd.R_alloc | apply Kd.R_drewN | apply Kd.R_drew)); exact Kd.R_mono HO241.out (fun _ hk => trivial)⟩, ⟨by repeat (first | (with_reducible first | exact HB.out | apply below_alloc | apply pw_below_drewN | apply below_drew1 | refine below_set ?_ GE226.out) | exact HB.out)⟩⟩
             ·
              rw [if_neg c31] at H
              exact absurd H (by simp)
         ·
          rw [if_neg c12] at H
          exact absurd H (by simp)
        ·
         rw [if_neg c11] at H
         exact absurd H (by simp)
       ·
        rw [if_neg c10] at H
        have c10b0 : decide (0 < x6_1) = false := decide_eq_false c10
        clear c10
        have HC34 := Aside0.mk H
        clear H
        go_upto_region 18 with (fail)
        go_cut [57] (fun v57 wc => ∃ (kq : Nat) (x57_33 : Bool), v57 = .bool x57_33 ∧ Aside0 (haversackref10_Marks.j2 kq a0 x3_1 x4_1 x5_1 x6_1 x7_1 x57_33 (bt a0 x7_1) 0 = some r) ∧ Aside0 (kq ≤ kj4) ∧ Aside0 (Kd.R k74 74 wc w.heap.size (fun k_ => k_ ≠ gb226) u3 x3_1) ∧ Aside0 (wc.heap[gb226]? = some (.cells #[.int .u8 (bt a0 x7_1), .int .i64 0] 74 (0, 0))) ∧ Aside0 (Below w.heap.size w wc))
        case first =>
         have H := HC34.out
         clear HC34
         by_cases c35 : x4_1 = true
         ·
          subst c35
          have H1 : (haversackref10_Marks.j2 kj4 a0 x3_1 true x5_1 x6_1 x7_1 x9_4 (bt a0 x7_1) 0) = some r := by rw [if_pos rfl] at H; exact H
          clear H
          have H := H1
          clear H1
          have H' := Aside0.mk H
          clear H
          go_wp2
          go_meet
          case rel => exact ⟨_, (x9_4), (by first | with_reducible rfl | (simp only [pps, Nat.reduceAdd, Int.toNat_natCast]; done) | rfl | (simp; done) | (simp [*]; done)), H', ⟨by have := HK1.out; have := HJ4.out; first | omega | exact Nat.le_refl _⟩, ⟨by (with_reducible repeat (first | apply Kd.R_alloc | apply Kd.R_drewN | apply Kd.R_drew)); exact HO_3.out⟩, ⟨by (with_reducible repeat (first | refine blk_drewN ?_ _ | refine blk_drew ?_ | refine blk_alloc ?_ _)); exact BK226.out⟩, ⟨by repeat (first | (with_reducible first | exact HB.out | apply below_alloc | apply pw_below_drewN | apply below_drew1 | refine below_set ?_ GE226.out) | exact HB.out)⟩⟩
         ·
          replace c35 := Bool.eq_false_iff.mpr c35
          subst c35
          have H1 : (haversackref10_Marks.j2 kj4 a0 x3_1 false x5_1 x6_1 x7_1 false (bt a0 x7_1) 0) = some r := by rw [if_neg (show ¬ (false = true) by decide)] at H; exact H
          clear H
          have H := H1
          clear H1
          have H' := Aside0.mk H
          clear H
          go_wp2
          go_meet
          case rel => exact ⟨_, (false), (by first | with_reducible rfl | (simp only [pps, Nat.reduceAdd, Int.toNat_natCast]; done) | rfl | (simp; done) | (simp [*]; done)), H', ⟨by have := HK1.out; have := HJ4.out; first | omega | exact Nat.le_refl _⟩, ⟨by (with_reducible repeat (first | apply Kd.R_alloc | apply Kd.R_drewN | apply Kd.R_drew)); exact HO_3.out⟩, ⟨by (with_reducible repeat (first | refine blk_drewN ?_ _ | refine blk_drew ?_ | refine blk_alloc ?_ _)); exact BK226.out⟩, ⟨by repeat (first | (with_reducible first | exact HB.out | apply below_alloc | apply pw_below_drewN | apply below_drew1 | refine below_set ?_ GE226.out) | exact HB.out)⟩⟩
        case rest =>
         clear HC34
         try clear c1
         try clear p1
         try clear q1
         try clear hx1
         try clear c2
         try clear c2b0
         try clear p2
         try clear q2
         try clear hx2
         try clear c3
         try clear c3b0
         try clear c4
         try clear p4
         try clear q4
         try clear hx4
         try clear p6
         try clear p8
         try clear q8
         try clear hx8
         try clear c9
         try clear c9b0
         try clear c9b1
         try clear c10
         try clear c10b0
         try clear c11
         try clear c11b0
         try clear c12
         try clear c12b0
         try clear p13
         try clear q13
         try clear hx13
         try clear c14
         try clear c14b0
         try clear c14b1
         try clear c15
         try clear c16
         try clear p21
         try clear q21
         try clear hx21
         try clear c22
         try clear c22b0
         try clear c22b1
         try clear c23
         try clear p26
         try clear q26
         try clear hx26
         try clear c27
         try clear c27b0
         try clear c27b1
         try clear c28
         try clear c31
         try clear c35
         try clear hcz17_0
         try clear hcz17_1
         try clear hcz19_0
         try clear hcz19_1
         try clear hcz24_0
         try clear hcz24_1
         try clear hcz29_0
         try clear hcz29_1
         try clear hcz32_0
         try clear hcz32_1
         try clear hcz7_0
         try clear hcz7_1
         try clear hfz17_0
         try clear hfz17_1
         try clear hfz19_0
         try clear hfz19_1
         try clear hfz24_0
         try clear hfz24_1
         try clear hfz29_0
         try clear hfz29_1
         try clear hfz32_0
         try clear hfz32_1
         try clear hfz7_0
         try clear hfz7_1
         try clear p13
         try clear p2
         try clear p21
         try clear p26
         try clear p4
         try clear p6
         try clear p8
         try clear q13
         try clear q21
         try clear q26
         try clear q4
         try clear q8
         obtain ⟨kq, x57_33, rfl, HA, HJ33, HO_3, BK226, HB⟩ := hcut
         cases kq with
         | zero => exact absurd HA.out (by simp [haversackref10_Marks.j2])
         | succ kj33 =>
          have H := HA.out
          clear HA
          simp only [haversackref10_Marks.j2] at H
          by_cases c36 : x57_33 = true
          ·
           subst c36
           have H1 : (if 0 ≤ x7_1 then (if x7_1 < (a0.size : Int) then (if x3_1.length < 8796093022208 then ((some (x3_1 ++ [(⟨bt a0 x7_1, 1⟩ : S74)] : List (S74))).bind fun y242 => (if 0 ≤ (wrap64 (x7_1 + 1)) then (if (wrap64 (x7_1 + 1)) < (a0.size : Int) then (if y242.length < 8796093022208 then (haversackref10_Marks.l0 kj33 a0 (y242 ++ [(⟨bt a0 (wrap64 (x7_1 + 1)), 0⟩ : S74)]) x4_1 x5_1 x6_1 (wrap64 ((wrap64 (x7_1 + 1)) + 1))) else (none)) else (none)) else (none))) else (none)) else (none)) else (none)) = some r := by rw [if_pos rfl] at H; exact H
           clear H
           have H := H1
           clear H1
           by_cases c37 : 0 ≤ x7_1
           ·
            rw [if_pos c37] at H
            have c37b0 : decide (0 ≤ x7_1) = true := decide_eq_true c37
            clear c37
            by_cases c38 : x7_1 < (a0.size : Int)
            ·
             rw [if_pos c38] at H
             have c38b0 : decide (x7_1 < (a0.size : Int)) = true := decide_eq_true c38
             clear c38
             by_cases c40 : x3_1.length < 8796093022208
             ·
              rw [if_pos c40] at H
              have LMc40 := Aside0.mk c40
              clear c40
              obtain ⟨y242, hy242⟩ : ∃ y_ : List (S74), y_ = (x3_1 ++ [(⟨bt a0 x7_1, 1⟩ : S74)]) := ⟨_, rfl⟩
              replace H : (if 0 ≤ (wrap64 (x7_1 + 1)) then (if (wrap64 (x7_1 + 1)) < (a0.size : Int) then (if y242.length < 8796093022208 then (haversackref10_Marks.l0 kj33 a0 (y242 ++ [(⟨bt a0 (wrap64 (x7_1 + 1)), 0⟩ : S74)]) x4_1 x5_1 x6_1 (wrap64 ((wrap64 (x7_1 + 1)) + 1))) else (none)) else (none)) else (none)) = some r := by first | (rw [hy242]; with_reducible exact H) | (have H2_ := (Option.bind_some _ _).symm.trans H; rw [hy242]; with_reducible exact H2_) | (have H2_ := (Option.bind_some _ _).symm.trans H; with_reducible exact H2_) | with_reducible exact H | (rw [hy242]; exact H) | exact H
              have Ny242 := Aside0.mk hy242
              clear hy242
              obtain ⟨ji41, hji41⟩ : ∃ j_ : Int, (wrap64 (x7_1 + 1)) = j_ := ⟨_, rfl⟩
              replace H : (if 0 ≤ (ji41) then (if (ji41) < (a0.size : Int) then (if y242.length < 8796093022208 then (haversackref10_Marks.l0 kj33 a0 (y242 ++ [(⟨bt a0 (ji41), 0⟩ : S74)]) x4_1 x5_1 x6_1 (wrap64 ((ji41) + 1))) else (none)) else (none)) else (none)) = some r := by first | (rw [hji41] at H; exact H) | (simp only [hji41] at H ⊢; exact H)
              have hji41w : (IntKind.i64.wrap (x7_1 + 1)) = ji41 := (i64_w _).trans hji41
              by_cases c42 : 0 ≤ (ji41)
              ·
               rw [if_pos c42] at H
               have c42b0 : decide (0 ≤ (ji41)) = true := decide_eq_true c42
               clear c42
               by_cases c43 : (ji41) < (a0.size : Int)
               ·
                rw [if_pos c43] at H
                have c43b0 : decide ((ji41) < (a0.size : Int)) = true := decide_eq_true c43
                clear c43
                by_cases c45 : y242.length < 8796093022208
                ·
                 rw [if_pos c45] at H
                 have LMc45 := Aside0.mk c45
                 clear c45
                 obtain ⟨y245, hy245⟩ : ∃ y_ : List (S74), y_ = (y242 ++ [(⟨bt a0 (ji41), 0⟩ : S74)]) := ⟨_, rfl⟩
                 replace H : (haversackref10_Marks.l0 kj33 a0 y245 x4_1 x5_1 x6_1 (wrap64 ((ji41) + 1))) = some r := by first | (rw [hy245]; with_reducible exact H) | (have H2_ := (Option.bind_some _ _).symm.trans H; rw [hy245]; with_reducible exact H2_) | (have H2_ := (Option.bind_some _ _).symm.trans H; with_reducible exact H2_) | with_reducible exact H | (rw [hy245]; exact H) | exact H
                 have Ny245 := Aside0.mk hy245
                 clear hy245
                 have H' := Aside0.mk H
                 clear H
                 have p39 : 0 ≤ (x7_1 : Int) := of_decide_eq_true (by first | (with_reducible assumption) | assumption)
                 have q39 : x7_1 < (a0.size : Int) := of_decide_eq_true (by first | (with_reducible assumption) | assumption)
                 have hx39 := bt_at a0 x7_1
                 replace p39 := eq_true p39
                 replace q39 := eq_true q39
                 go_wp2_with (first | ((with_reducible refine gate_builtin (b := .append) (xs := #[.tmp 62, .tmp 67]) rfl ?_); (try (refine gate_guard (by rfl) ?_; dsimp only)); at_builtin; refine Kd.R_append k74 (w0 := w) w.heap.size rfl (.tmp 62) (.tmp 67) 71 74 (.agg #[(.int .u8 0), (.int .i64 0)]) 16 rfl Tryd.underlying71 info74 rfl (by decide) (by omega) u3 x3_1 (⟨bt a0 x7_1, 1⟩ : S74) [.int .u8 (bt a0 x7_1), .int .i64 1] (fun k_ => k_ ≠ gb226) (fun _ => False) rfl rfl ?aP (fun _ hk => hk.elim) ?aF ?aO ?aB ?aS ?aL ?_; (case aP => exact k74_mkM _ _ _ (⟨bt a0 x7_1, 1⟩ : S74)); (case aB => exact (by repeat (first | (with_reducible first | exact HB.out | apply below_alloc | apply pw_below_drewN | apply below_drew1 | refine below_set ?_ GE226.out) | exact HB.out))); (case aF => exact (fun k_ hk => Kd.freshB (g := gb226) (o := .cells #[.int .u8 (bt a0 x7_1), .int .i64 0] 74 (0, 0)) (by (with_reducible repeat (first | refine blk_drewN ?_ _ | refine blk_drew ?_ | refine blk_alloc ?_ _)); exact BK226.out) k_ hk)); (case aO => exact (by (with_reducible repeat (first | apply Kd.R_alloc | apply Kd.R_drewN | apply Kd.R_drew)); exact HO_3.out)); (case aS => exact (below_size (by repeat (first | (with_reducible first | exact HB.out | apply below_alloc | apply pw_below_drewN | apply below_drew1 | refine below_set ?_ GE226.out) | exact HB.out)))); (case aL => have := LMc40.out; omega); intro v243 w46 ho hb hg hat; rw [← Ny242.out] at ho; have n0_ := Aside0.mk (blk_grown (g := gb226) (o := .cells #[.int .u8 (bt a0 x7_1), .int .i64 0] 74 (0, 0)) (by (with_reducible repeat (first | refine blk_drewN ?_ _ | refine blk_drew ?_ | refine blk_alloc ?_ _)); exact BK226.out) hg (Kd.R_away HO_3.out (fun _ hk => hk))); have n1_ := Aside0.mk (hb); have n2_ := Aside0.mk (ho); clear BK226; clear HB; clear HO_3; have BK226 := n0_; have HB := n1_; have HO244 := n2_; clear n0_ n1_ n2_; clear ho hb hg hat; have p44 : 0 ≤ ((ji41) : Int) := of_decide_eq_true (by first | (with_reducible assumption) | assumption); have q44 : (ji41) < (a0.size : Int) := of_decide_eq_true (by first | (with_reducible assumption) | assumption); have hx44 := bt_at a0 (ji41); replace p44 := eq_true p44; replace q44 := eq_true q44; have hcz47_0 : w46.cell? ⟨gb226, 0, none⟩ = some (.int .u8 (bt a0 x7_1)) := (blk_cell BK226.out 0).trans rfl; have hcz47_1 : w46.cell? ⟨gb226, 1, none⟩ = some (.int .i64 0) := (blk_cell BK226.out 1).trans rfl; have hfz47_0 := blk_frozen BK226.out 0; have hfz47_1 := blk_frozen BK226.out 1) | ((with_reducible refine gate_builtin (b := .append) (xs := #[.tmp 120, .tmp 122]) rfl ?_); (try (refine gate_guard (by rfl) ?_; dsimp only)); at_builtin; refine Kd.R_append k74 (w0 := w) w.heap.size rfl (.tmp 120) (.tmp 122) 71 74 (.agg #[(.int .u8 0), (.int .i64 0)]) 16 rfl Tryd.underlying71 info74 rfl (by decide) (by omega) v243 y242 (⟨bt a0 (ji41), 0⟩ : S74) [.int .u8 (bt a0 (ji41)), .int .i64 0] (fun k_ => k_ ≠ gb226) (fun _ => False) rfl (by first | (go_simp; done) | (go_simp; rfl)) ?aP (fun _ hk => hk.elim) ?aF ?aO ?aB ?aS ?aL ?_; (case aP => exact k74_mkM _ _ _ (⟨bt a0 (ji41), 0⟩ : S74)); (case aB => exact (by repeat (first | (with_reducible first | exact HB.out | apply below_alloc | apply pw_below_drewN | apply below_drew1 | refine below_set ?_ GE226.out) | exact HB.out))); (case aF => exact (fun k_ hk => Kd.freshB (g := gb226) (o := .cells #[.int .u8 (bt a0 (ji41)), .int .i64 0] 74 (0, 0)) (by (with_reducible repeat (first | refine blk_drewN ?_ _ | refine blk_drew ?_ | refine blk_alloc ?_ _)); refine blk_put (cs := #[.int .u8 (bt a0 x7_1), .int .i64 0]) ?_ 0 _ rfl; (with_reducible repeat (first | refine blk_drewN ?_ _ | refine blk_drew ?_ | refine blk_alloc ?_ _)); exact BK226.out) k_ hk)); (case aO => exact (by (with_reducible repeat (first | apply Kd.R_alloc | apply Kd.R_drewN | apply Kd.R_drew)); exact Kd.R_mono (Kd.R_far (p := ⟨gb226, 0, none⟩) (Kd.R_mono HO244.out (fun k_ hk => (⟨hk, hk⟩ : _ ∧ k_ ≠ gb226))) (fun _ hk => hk.2) (.int .u8 (bt a0 (ji41)))) (fun _ hk => hk.1))); (case aS => exact (below_size (by repeat (first | (with_reducible first | exact HB.out | apply below_alloc | apply pw_below_drewN | apply below_drew1 | refine below_set ?_ GE226.out) | exact HB.out)))); (case aL => have := LMc45.out; omega); intro v246 w48 ho hb hg hat; rw [← Ny245.out] at ho; have n0_ := Aside0.mk (blk_grown (g := gb226) (o := .cells #[.int .u8 (bt a0 (ji41)), .int .i64 0] 74 (0, 0)) (by (with_reducible repeat (first | refine blk_drewN ?_ _ | refine blk_drew ?_ | refine blk_alloc ?_ _)); refine blk_put (cs := #[.int .u8 (bt a0 x7_1), .int .i64 0]) ?_ 0 _ rfl; (with_reducible repeat (first | refine blk_drewN ?_ _ | refine blk_drew ?_ | refine blk_alloc ?_ _)); exact BK226.out) hg (Kd.R_away HO244.out (fun _ hk => hk))); have n1_ := Aside0.mk (hb); have n2_ := Aside0.mk (ho); clear BK226; clear HB; clear HO244; have BK226 := n0_; have HB := n1_; have HO247 := n2_; clear n0_ n1_ n2_; clear ho hb hg hat))
                 go_roundg kj33
                 case measure => have := HK1.out; have := HJ4.out; have := HJ33.out; omega
                 case rel => exact ⟨(y245), (x4_1), (x5_1), (x6_1), (wrap64 ((ji41) + 1)), (by first | with_reducible rfl | (simp only [pps, Nat.reduceAdd, Int.toNat_natCast]; done) | rfl | (simp; done) | (simp [*]; done)), (by first | with_reducible rfl | (simp only [pps, Nat.reduceAdd, Int.toNat_natCast]; done) | rfl | (simp; done) | (simp [*]; done)), (by first | with_reducible rfl | (simp only [pps, Nat.reduceAdd, Int.toNat_natCast]; done) | rfl | (simp; done) | (simp [*]; done)), (by first | with_reducible rfl | (simp only [pps, Nat.reduceAdd, Int.toNat_natCast]; done) | rfl | (simp; done) | (simp only [← hji41] <;> (first | rfl | simp)) | (simp [*]; done)), H', ⟨by have := HK1.out; have := HJ4.out; have := HJ33.out; omega⟩, ⟨by (with_reducible repeat (first | apply Kd.R_alloc | apply Kd.R_drewN | apply Kd.R_drew)); exact Kd.R_mono HO247.out (fun _ hk => trivial)⟩, ⟨by repeat (first | (with_reducible first | exact HB.out | apply below_alloc | apply pw_below_drewN | apply below_drew1 | refine below_set ?_ GE226.out) | exact HB.out)⟩⟩
                ·
                 rw [if_neg c45] at H
                 exact absurd H (by simp)
               ·
                rw [if_neg c43] at H
                exact absurd H (by simp)
              ·
               rw [if_neg c42] at H
               exact absurd H (by simp)
             ·
              rw [if_neg c40] at H
              exact absurd H (by simp)
            ·
             rw [if_neg c38] at H
             exact absurd H (by simp)
           ·
            rw [if_neg c37] at H
            exact absurd H (by simp)
          ·
           replace c36 := Bool.eq_false_iff.mpr c36
           subst c36
           have H1 : (if 0 ≤ x7_1 then (if x7_1 < (a0.size : Int) then (if (bt a0 x7_1) = 34 then (if x3_1.length < 8796093022208 then (haversackref10_Marks.l0 kj33 a0 (x3_1 ++ [(⟨(bt a0 x7_1), 1⟩ : S74)]) (!x4_1) x5_1 x6_1 (wrap64 (x7_1 + 1))) else (none)) else (if x4_1 = true then (if x3_1.length < 8796093022208 then (haversackref10_Marks.l0 kj33 a0 (x3_1 ++ [(⟨(bt a0 x7_1), 0⟩ : S74)]) x4_1 x5_1 x6_1 (wrap64 (x7_1 + 1))) else (none)) else (if (bt a0 x7_1) = 40 then (if x3_1.length < 8796093022208 then (haversackref10_Marks.l0 kj33 a0 (x3_1 ++ [(⟨(bt a0 x7_1), 1⟩ : S74)]) x4_1 x5_1 1 (wrap64 (x7_1 + 1))) else (none)) else (if (bt a0 x7_1) = 60 then (haversackref10_Marks.j3 kj33 a0 x3_1 x4_1 x5_1 x6_1 x7_1 (!x5_1) (bt a0 x7_1) 0) else (haversackref10_Marks.j3 kj33 a0 x3_1 x4_1 x5_1 x6_1 x7_1 false (bt a0 x7_1) 0))))) else (none)) else (none)) = some r := by rw [if_neg (show ¬ (false = true) by decide)] at H; exact H
           clear H
           have H := H1
           clear H1
           by_cases c49 : 0 ≤ x7_1
           ·
            rw [if_pos c49] at H
            have c49b0 : decide (0 ≤ x7_1) = true := decide_eq_true c49
            clear c49
            by_cases c50 : x7_1 < (a0.size : Int)
            ·
             rw [if_pos c50] at H
             have c50b0 : decide (x7_1 < (a0.size : Int)) = true := decide_eq_true c50
             clear c50
             by_cases c52 : (bt a0 x7_1) = 34
             ·
              rw [if_pos c52] at H
              have c52b0 : ((bt a0 x7_1) == 34) = true := beq_iff_eq.mpr c52
              have c52b1 : ((bt a0 x7_1) != 34) = false := bne_eq_false_iff_eq.mpr c52
              clear c52
              by_cases c53 : x3_1.length < 8796093022208
              ·
               rw [if_pos c53] at H
               have LMc53 := Aside0.mk c53
               clear c53
               obtain ⟨y248, hy248⟩ : ∃ y_ : List (S74), y_ = (x3_1 ++ [(⟨(bt a0 x7_1), 1⟩ : S74)]) := ⟨_, rfl⟩
               replace H : (haversackref10_Marks.l0 kj33 a0 y248 (!x4_1) x5_1 x6_1 (wrap64 (x7_1 + 1))) = some r := by first | (rw [hy248]; with_reducible exact H) | (have H2_ := (Option.bind_some _ _).symm.trans H; rw [hy248]; with_reducible exact H2_) | (have H2_ := (Option.bind_some _ _).symm.trans H; with_reducible exact H2_) | with_reducible exact H | (rw [hy248]; exact H) | exact H
               have Ny248 := Aside0.mk hy248
               clear hy248
               have H' := Aside0.mk H
               clear H
               have p51 : 0 ≤ (x7_1 : Int) := of_decide_eq_true (by first | (with_reducible assumption) | assumption)
               have q51 : x7_1 < (a0.size : Int) := of_decide_eq_true (by first | (with_reducible assumption) | assumption)
               have hx51 := bt_at a0 x7_1
               replace p51 := eq_true p51
               replace q51 := eq_true q51
               have hcz54_0 : wc.cell? ⟨gb226, 0, none⟩ = some (.int .u8 (bt a0 x7_1)) := (blk_cell BK226.out 0).trans rfl
               have hcz54_1 : wc.cell? ⟨gb226, 1, none⟩ = some (.int .i64 0) := (blk_cell BK226.out 1).trans rfl
               have hfz54_0 := blk_frozen BK226.out 0
               have hfz54_1 := blk_frozen BK226.out 1
               go_wp2_with (first | ((with_reducible refine gate_builtin (b := .append) (xs := #[.tmp 120, .tmp 122]) rfl ?_); (try (refine gate_guard (by rfl) ?_; dsimp only)); at_builtin; refine Kd.R_append k74 (w0 := w) w.heap.size rfl (.tmp 120) (.tmp 122) 71 74 (.agg #[(.int .u8 0), (.int .i64 0)]) 16 rfl Tryd.underlying71 info74 rfl (by decide) (by omega) u3 x3_1 (⟨(bt a0 x7_1), 1⟩ : S74) [.int .u8 (bt a0 x7_1), .int .i64 1] (fun k_ => k_ ≠ gb226) (fun _ => False) rfl (by first | (go_simp; done) | (go_simp; rfl)) ?aP (fun _ hk => hk.elim) ?aF ?aO ?aB ?aS ?aL ?_; (case aP => exact k74_mkM _ _ _ (⟨(bt a0 x7_1), 1⟩ : S74)); (case aB => exact (by repeat (first | (with_reducible first | exact HB.out | apply below_alloc | apply pw_below_drewN | apply below_drew1 | refine below_set ?_ GE226.out) | exact HB.out))); (case aF => exact (fun k_ hk => Kd.freshB (g := gb226) (o := .cells #[.int .u8 (bt a0 x7_1), .int .i64 1] 74 (0, 0)) (by (with_reducible repeat (first | refine blk_drewN ?_ _ | refine blk_drew ?_ | refine blk_alloc ?_ _)); refine blk_put (cs := #[.int .u8 (bt a0 x7_1), .int .i64 0]) ?_ 1 _ rfl; (with_reducible repeat (first | refine blk_drewN ?_ _ | refine blk_drew ?_ | refine blk_alloc ?_ _)); exact BK226.out) k_ hk)); (case aO => exact (by (with_reducible repeat (first | apply Kd.R_alloc | apply Kd.R_drewN | apply Kd.R_drew)); exact Kd.R_mono (Kd.R_far (p := ⟨gb226, 1, none⟩) (Kd.R_mono HO_3.out (fun k_ hk => (⟨hk, hk⟩ : _ ∧ k_ ≠ gb226))) (fun _ hk => hk.2) (.int .i64 1)) (fun _ hk => hk.1))); (case aS => exact (below_size (by repeat (first | (with_reducible first | exact HB.out | apply below_alloc | apply pw_below_drewN | apply below_drew1 | refine below_set ?_ GE226.out) | exact HB.out)))); (case aL => have := LMc53.out; omega); intro v249 w55 ho hb hg hat; rw [← Ny248.out] at ho; have n0_ := Aside0.mk (blk_grown (g := gb226) (o := .cells #[.int .u8 (bt a0 x7_1), .int .i64 1] 74 (0, 0)) (by (with_reducible repeat (first | refine blk_drewN ?_ _ | refine blk_drew ?_ | refine blk_alloc ?_ _)); refine blk_put (cs := #[.int .u8 (bt a0 x7_1), .int .i64 0]) ?_ 1 _ rfl; (with_reducible repeat (first | refine blk_drewN ?_ _ | refine blk_drew ?_ | refine blk_alloc ?_ _)); exact BK226.out) hg (Kd.R_away HO_3.out (fun _ hk => hk))); have n1_ := Aside0.mk (hb); have n2_ := Aside0.mk (ho); clear BK226; clear HB; clear HO_3; have BK226 := n0_; have HB := n1_; have HO250 := n2_; clear n0_ n1_ n2_; clear ho hb hg hat))
               go_roundg kj33
               case measure => have := HK1.out; have := HJ4.out; have := HJ33.out; omega
               case rel => exact ⟨(y248), (!x4_1), (x5_1), (x6_1), (wrap64 (x7_1 + 1)), (by first | with_reducible rfl | (simp only [pps, Nat.reduceAdd, Int.toNat_natCast]; done) | rfl | (simp; done) | (simp [*]; done)), (by first | with_reducible rfl | (simp only [pps, Nat.reduceAdd, Int.toNat_natCast]; done) | rfl | (simp; done) | (simp [*]; done)), (by first | with_reducible rfl | (simp only [pps, Nat.reduceAdd, Int.toNat_natCast]; done) | rfl | (simp; done) | (simp [*]; done)), (by first | with_reducible rfl | (simp only [pps, Nat.reduceAdd, Int.toNat_natCast]; done) | rfl | (simp; done) | (simp [*]; done)), H', ⟨by have := HK1.out; have := HJ4.out; have := HJ33.out; omega⟩, ⟨by (with_reducible repeat (first | apply Kd.R_alloc | apply Kd.R_drewN | apply Kd.R_drew)); exact Kd.R_mono HO250.out (fun _ hk => trivial)⟩, ⟨by repeat (first | (with_reducible first | exact HB.out | apply below_alloc | apply pw_below_drewN | apply below_drew1 | refine below_set ?_ GE226.out) | exact HB.out)⟩⟩
              ·
               rw [if_neg c53] at H
               exact absurd H (by simp)
             ·
              rw [if_neg c52] at H
              have c52b0 : ((bt a0 x7_1) == 34) = false := beq_eq_false_iff_ne.mpr c52
              have c52b1 : ((bt a0 x7_1) != 34) = true := bne_iff_ne.mpr c52
              by_cases c56 : x4_1 = true
              ·
               subst c56
               have H1 : (if x3_1.length < 8796093022208 then (haversackref10_Marks.l0 kj33 a0 (x3_1 ++ [(⟨(bt a0 x7_1), 0⟩ : S74)]) true x5_1 x6_1 (wrap64 (x7_1 + 1))) else (none)) = some r := by rw [if_pos rfl] at H; exact H
               clear H
               have H := H1
               clear H1
               by_cases c57 : x3_1.length < 8796093022208
               ·
                rw [if_pos c57] at H
                have LMc57 := Aside0.mk c57
                clear c57
                obtain ⟨y251, hy251⟩ : ∃ y_ : List (S74), y_ = (x3_1 ++ [(⟨(bt a0 x7_1), 0⟩ : S74)]) := ⟨_, rfl⟩
                replace H : (haversackref10_Marks.l0 kj33 a0 y251 true x5_1 x6_1 (wrap64 (x7_1 + 1))) = some r := by first | (rw [hy251]; with_reducible exact H) | (have H2_ := (Option.bind_some _ _).symm.trans H; rw [hy251]; with_reducible exact H2_) | (have H2_ := (Option.bind_some _ _).symm.trans H; with_reducible exact H2_) | with_reducible exact H | (rw [hy251]; exact H) | exact H
                have Ny251 := Aside0.mk hy251
                clear hy251
                have H' := Aside0.mk H
                clear H
                have p51 : 0 ≤ (x7_1 : Int) := of_decide_eq_true (by first | (with_reducible assumption) | assumption)
                have q51 : x7_1 < (a0.size : Int) := of_decide_eq_true (by first | (with_reducible assumption) | assumption)
                have hx51 := bt_at a0 x7_1
                replace p51 := eq_true p51
                replace q51 := eq_true q51
                have hcz58_0 : wc.cell? ⟨gb226, 0, none⟩ = some (.int .u8 (bt a0 x7_1)) := (blk_cell BK226.out 0).trans rfl
                have hcz58_1 : wc.cell? ⟨gb226, 1, none⟩ = some (.int .i64 0) := (blk_cell BK226.out 1).trans rfl
                have hfz58_0 := blk_frozen BK226.out 0
                have hfz58_1 := blk_frozen BK226.out 1
                go_wp2_with (first | ((with_reducible refine gate_builtin (b := .append) (xs := #[.tmp 120, .tmp 122]) rfl ?_); (try (refine gate_guard (by rfl) ?_; dsimp only)); at_builtin; refine Kd.R_append k74 (w0 := w) w.heap.size rfl (.tmp 120) (.tmp 122) 71 74 (.agg #[(.int .u8 0), (.int .i64 0)]) 16 rfl Tryd.underlying71 info74 rfl (by decide) (by omega) u3 x3_1 (⟨(bt a0 x7_1), 0⟩ : S74) [.int .u8 (bt a0 x7_1), .int .i64 0] (fun k_ => k_ ≠ gb226) (fun _ => False) rfl rfl ?aP (fun _ hk => hk.elim) ?aF ?aO ?aB ?aS ?aL ?_; (case aP => exact k74_mkM _ _ _ (⟨(bt a0 x7_1), 0⟩ : S74)); (case aB => exact (by repeat (first | (with_reducible first | exact HB.out | apply below_alloc | apply pw_below_drewN | apply below_drew1 | refine below_set ?_ GE226.out) | exact HB.out))); (case aF => exact (fun k_ hk => Kd.freshB (g := gb226) (o := .cells #[.int .u8 (bt a0 x7_1), .int .i64 0] 74 (0, 0)) (by (with_reducible repeat (first | refine blk_drewN ?_ _ | refine blk_drew ?_ | refine blk_alloc ?_ _)); exact BK226.out) k_ hk)); (case aO => exact (by (with_reducible repeat (first | apply Kd.R_alloc | apply Kd.R_drewN | apply Kd.R_drew)); exact HO_3.out)); (case aS => exact (below_size (by repeat (first | (with_reducible first | exact HB.out | apply below_alloc | apply pw_below_drewN | apply below_drew1 | refine below_set ?_ GE226.out) | exact HB.out)))); (case aL => have := LMc57.out; omega); intro v252 w59 ho hb hg hat; rw [← Ny251.out] at ho; have n0_ := Aside0.mk (blk_grown (g := gb226) (o := .cells #[.int .u8 (bt a0 x7_1), .int .i64 0] 74 (0, 0)) (by (with_reducible repeat (first | refine blk_drewN ?_ _ | refine blk_drew ?_ | refine blk_alloc ?_ _)); exact BK226.out) hg (Kd.R_away HO_3.out (fun _ hk => hk))); have n1_ := Aside0.mk (hb); have n2_ := Aside0.mk (ho); clear BK226; clear HB; clear HO_3; have BK226 := n0_; have HB := n1_; have HO253 := n2_; clear n0_ n1_ n2_; clear ho hb hg hat))
                go_roundg kj33
                case measure => have := HK1.out; have := HJ4.out; have := HJ33.out; omega
                case rel => exact ⟨(y251), (true), (x5_1), (x6_1), (wrap64 (x7_1 + 1)), (by first | with_reducible rfl | (simp only [pps, Nat.reduceAdd, Int.toNat_natCast]; done) | rfl | (simp; done) | (simp [*]; done)), (by first | with_reducible rfl | (simp only [pps, Nat.reduceAdd, Int.toNat_natCast]; done) | rfl | (simp; done) | (simp [*]; done)), (by first | with_reducible rfl | (simp only [pps, Nat.reduceAdd, Int.toNat_natCast]; done) | rfl | (simp; done) | (simp [*]; done)), (by first | with_reducible rfl | (simp only [pps, Nat.reduceAdd, Int.toNat_natCast]; done) | rfl | (simp; done) | (simp [*]; done)), H', ⟨by have := HK1.out; have := HJ4.out; have := HJ33.out; omega⟩, ⟨by (with_reducible repeat (first | apply Kd.R_alloc | apply Kd.R_drewN | apply Kd.R_drew)); exact Kd.R_mono HO253.out (fun _ hk => trivial)⟩, ⟨by repeat (first | (with_reducible first | exact HB.out | apply below_alloc | apply pw_below_drewN | apply below_drew1 | refine below_set ?_ GE226.out) | exact HB.out)⟩⟩
               ·
                rw [if_neg c57] at H
                exact absurd H (by simp)
              ·
               replace c56 := Bool.eq_false_iff.mpr c56
               subst c56
               have H1 : (if (bt a0 x7_1) = 40 then (if x3_1.length < 8796093022208 then (haversackref10_Marks.l0 kj33 a0 (x3_1 ++ [(⟨(bt a0 x7_1), 1⟩ : S74)]) false x5_1 1 (wrap64 (x7_1 + 1))) else (none)) else (if (bt a0 x7_1) = 60 then (haversackref10_Marks.j3 kj33 a0 x3_1 false x5_1 x6_1 x7_1 (!x5_1) (bt a0 x7_1) 0) else (haversackref10_Marks.j3 kj33 a0 x3_1 false x5_1 x6_1 x7_1 false (bt a0 x7_1) 0))) = some r := by rw [if_neg (show ¬ (false = true) by decide)] at H; exact H
               clear H
               have H := H1
               clear H1
               by_cases c61 : (bt a0 x7_1) = 40
               ·
                rw [if_pos c61] at H
                have c61b0 : ((bt a0 x7_1) == 40) = true := beq_iff_eq.mpr c61
                have c61b1 : ((bt a0 x7_1) != 40) = false := bne_eq_false_iff_eq.mpr c61
                clear c61
                by_cases c62 : x3_1.length < 8796093022208
                ·
                 rw [if_pos c62] at H
                 have LMc62 := Aside0.mk c62
                 clear c62
                 obtain ⟨y254, hy254⟩ : ∃ y_ : List (S74), y_ = (x3_1 ++ [(⟨(bt a0 x7_1), 1⟩ : S74)]) := ⟨_, rfl⟩
                 replace H : (haversackref10_Marks.l0 kj33 a0 y254 false x5_1 1 (wrap64 (x7_1 + 1))) = some r := by first | (rw [hy254]; with_reducible exact H) | (have H2_ := (Option.bind_some _ _).symm.trans H; rw [hy254]; with_reducible exact H2_) | (have H2_ := (Option.bind_some _ _).symm.trans H; with_reducible exact H2_) | with_reducible exact H | (rw [hy254]; exact H) | exact H
                 have Ny254 := Aside0.mk hy254
                 clear hy254
                 have H' := Aside0.mk H
                 clear H
                 have p51 : 0 ≤ (x7_1 : Int) := of_decide_eq_true (by first | (with_reducible assumption) | assumption)
                 have q51 : x7_1 < (a0.size : Int) := of_decide_eq_true (by first | (with_reducible assumption) | assumption)
                 have hx51 := bt_at a0 x7_1
                 replace p51 := eq_true p51
                 replace q51 := eq_true q51
                 have p60 : 0 ≤ (x7_1 : Int) := of_decide_eq_true (by first | (with_reducible assumption) | assumption)
                 have q60 : x7_1 < (a0.size : Int) := of_decide_eq_true (by first | (with_reducible assumption) | assumption)
                 have hx60 := bt_at a0 x7_1
                 replace p60 := eq_true p60
                 replace q60 := eq_true q60
                 have hcz63_0 : wc.cell? ⟨gb226, 0, none⟩ = some (.int .u8 (bt a0 x7_1)) := (blk_cell BK226.out 0).trans rfl
                 have hcz63_1 : wc.cell? ⟨gb226, 1, none⟩ = some (.int .i64 0) := (blk_cell BK226.out 1).trans rfl
                 have hfz63_0 := blk_frozen BK226.out 0
                 have hfz63_1 := blk_frozen BK226.out 1
                 go_wp2_with (first | ((with_reducible refine gate_builtin (b := .append) (xs := #[.tmp 120, .tmp 122]) rfl ?_); (try (refine gate_guard (by rfl) ?_; dsimp only)); at_builtin; refine Kd.R_append k74 (w0 := w) w.heap.size rfl (.tmp 120) (.tmp 122) 71 74 (.agg #[(.int .u8 0), (.int .i64 0)]) 16 rfl Tryd.underlying71 info74 rfl (by decide) (by omega) u3 x3_1 (⟨(bt a0 x7_1), 1⟩ : S74) [.int .u8 (bt a0 x7_1), .int .i64 1] (fun k_ => k_ ≠ gb226) (fun _ => False) rfl (by first | (go_simp; done) | (go_simp; rfl)) ?aP (fun _ hk => hk.elim) ?aF ?aO ?aB ?aS ?aL ?_; (case aP => exact k74_mkM _ _ _ (⟨(bt a0 x7_1), 1⟩ : S74)); (case aB => exact (by repeat (first | (with_reducible first | exact HB.out | apply below_alloc | apply pw_below_drewN | apply below_drew1 | refine below_set ?_ GE226.out) | exact HB.out))); (case aF => exact (fun k_ hk => Kd.freshB (g := gb226) (o := .cells #[.int .u8 (bt a0 x7_1), .int .i64 1] 74 (0, 0)) (by (with_reducible repeat (first | refine blk_drewN ?_ _ | refine blk_drew ?_ | refine blk_alloc ?_ _)); refine blk_put (cs := #[.int .u8 (bt a0 x7_1), .int .i64 0]) ?_ 1 _ rfl; (with_reducible repeat (first | refine blk_drewN ?_ _ | refine blk_drew ?_ | refine blk_alloc ?_ _)); exact BK226.out) k_ hk)); (case aO => exact (by (with_reducible repeat (first | apply Kd.R_alloc | apply Kd.R_drewN | apply Kd.R_drew)); exact Kd.R_mono (Kd.R_far (p := ⟨gb226, 1, none⟩) (Kd.R_mono HO_3.out (fun k_ hk => (⟨hk, hk⟩ : _ ∧ k_ ≠ gb226))) (fun _ hk => hk.2) (.int .i64 1)) (fun _ hk => hk.1))); (case aS => exact (below_size (by repeat (first | (with_reducible first | exact HB.out | apply below_alloc | apply pw_below_drewN | apply below_drew1 | refine below_set ?_ GE226.out) | exact HB.out)))); (case aL => have := LMc62.out; omega); intro v255 w64 ho hb hg hat; rw [← Ny254.out] at ho; have n0_ := Aside0.mk (blk_grown (g := gb226) (o := .cells #[.int .u8 (bt a0 x7_1), .int .i64 1] 74 (0, 0)) (by (with_reducible repeat (first | refine blk_drewN ?_ _ | refine blk_drew ?_ | refine blk_alloc ?_ _)); refine blk_put (cs := #[.int .u8 (bt a0 x7_1), .int .i64 0]) ?_ 1 _ rfl; (with_reducible repeat (first | refine blk_drewN ?_ _ | refine blk_drew ?_ | refine blk_alloc ?_ _)); exact BK226.out) hg (Kd.R_away HO_3.out (fun _ hk => hk))); have n1_ := Aside0.mk (hb); have n2_ := Aside0.mk (ho); clear BK226; clear HB; clear HO_3; have BK226 := n0_; have HB := n1_; have HO256 := n2_; clear n0_ n1_ n2_; clear ho hb hg hat))
                 go_roundg kj33
                 case measure => have := HK1.out; have := HJ4.out; have := HJ33.out; omega
                 case rel => exact ⟨(y254), (false), (x5_1), (1), (wrap64 (x7_1 + 1)), (by first | with_reducible rfl | (simp only [pps, Nat.reduceAdd, Int.toNat_natCast]; done) | rfl | (simp; done) | (simp [*]; done)), (by first | with_reducible rfl | (simp only [pps, Nat.reduceAdd, Int.toNat_natCast]; done) | rfl | (simp; done) | (simp [*]; done)), (by first | with_reducible rfl | (simp only [pps, Nat.reduceAdd, Int.toNat_natCast]; done) | rfl | (simp; done) | (simp [*]; done)), (by first | with_reducible rfl | (simp only [pps, Nat.reduceAdd, Int.toNat_natCast]; done) | rfl | (simp; done) | (simp [*]; done)), H', ⟨by have := HK1.out; have := HJ4.out; have := HJ33.out; omega⟩, ⟨by (with_reducible repeat (first | apply Kd.R_alloc | apply Kd.R_drewN | apply Kd.R_drew)); exact Kd.R_mono HO256.out (fun _ hk => trivial)⟩, ⟨by repeat (first | (with_reducible first | exact HB.out | apply below_alloc | apply pw_below_drewN | apply below_drew1 | refine below_set ?_ GE226.out) | exact HB.out)⟩⟩
                ·
                 rw [if_neg c62] at H
                 exact absurd H (by simp)
               ·
                rw [if_neg c61] at H
                have c61b0 : ((bt a0 x7_1) == 40) = false := beq_eq_false_iff_ne.mpr c61
                have c61b1 : ((bt a0 x7_1) != 40) = true := bne_iff_ne.mpr c61
                have HC65 := Aside0.mk H
                clear H
                have p51 : 0 ≤ (x7_1 : Int) := of_decide_eq_true (by first | (with_reducible assumption) | assumption)
                have q51 : x7_1 < (a0.size : Int) := of_decide_eq_true (by first | (with_reducible assumption) | assumption)
                have hx51 := bt_at a0 x7_1
                replace p51 := eq_true p51
                replace q51 := eq_true q51
                have p60 : 0 ≤ (x7_1 : Int) := of_decide_eq_true (by first | (with_reducible assumption) | assumption)
                have q60 : x7_1 < (a0.size : Int) := of_decide_eq_true (by first | (with_reducible assumption) | assumption)
                have hx60 := bt_at a0 x7_1
                replace p60 := eq_true p60
                replace q60 := eq_true q60
                go_upto_region 29 with (fail)
                go_cut [91] (fun v91 wc => ∃ (kq : Nat) (x91_64 : Bool), v91 = .bool x91_64 ∧ Aside0 (haversackref10_Marks.j3 kq a0 x3_1 false x5_1 x6_1 x7_1 x91_64 (bt a0 x7_1) 0 = some r) ∧ Aside0 (kq ≤ kj33) ∧ Aside0 (Kd.R k74 74 wc w.heap.size (fun k_ => k_ ≠ gb226) u3 x3_1) ∧ Aside0 (wc.heap[gb226]? = some (.cells #[.int .u8 (bt a0 x7_1), .int .i64 0] 74 (0, 0))) ∧ Aside0 (Below w.heap.size w wc))
                case first =>
                 have H := HC65.out
                 clear HC65
                 by_cases c67 : (bt a0 x7_1) = 60
                 ·
                  rw [if_pos c67] at H
                  have c67b0 : ((bt a0 x7_1) == 60) = true := beq_iff_eq.mpr c67
                  have c67b1 : ((bt a0 x7_1) != 60) = false := bne_eq_false_iff_eq.mpr c67
                  clear c67
                  (first | rw [c67b0] | (simp only [i64_w, i32_w]; rw [c67b0]) | skip)
                  have H' := Aside0.mk H
                  clear H
                  have p66 : 0 ≤ (x7_1 : Int) := of_decide_eq_true (by first | (with_reducible assumption) | assumption)
                  have q66 : x7_1 < (a0.size : Int) := of_decide_eq_true (by first | (with_reducible assumption) | assumption)
                  have hx66 := bt_at a0 x7_1
                  replace p66 := eq_true p66
                  replace q66 := eq_true q66
                  go_wp2
                  go_meet
                  case rel => exact ⟨_, (!x5_1), (by first | with_reducible rfl | (simp only [pps, Nat.reduceAdd, Int.toNat_natCast]; done) | rfl | (simp; done) | (simp [*]; done)), H', ⟨by have := HK1.out; have := HJ4.out; have := HJ33.out; first | omega | exact Nat.le_refl _⟩, ⟨by (with_reducible repeat (first | apply Kd.R_alloc | apply Kd.R_drewN | apply Kd.R_drew)); exact HO_3.out⟩, ⟨by (with_reducible repeat (first | refine blk_drewN ?_ _ | refine blk_drew ?_ | refine blk_alloc ?_ _)); exact BK226.out⟩, ⟨by repeat (first | (with_reducible first | exact HB.out | apply below_alloc | apply pw_below_drewN | apply below_drew1 | refine below_set ?_ GE226.out) | exact HB.out)⟩⟩
                 ·
                  rw [if_neg c67] at H
                  have c67b0 : ((bt a0 x7_1) == 60) = false := beq_eq_false_iff_ne.mpr c67
                  have c67b1 : ((bt a0 x7_1) != 60) = true := bne_iff_ne.mpr c67
                  (first | rw [c67b0] | (simp only [i64_w, i32_w]; rw [c67b0]) | skip)
                  have H' := Aside0.mk H
                  clear H
                  have p66 : 0 ≤ (x7_1 : Int) := of_decide_eq_true (by first | (with_reducible assumption) | assumption)
                  have q66 : x7_1 < (a0.size : Int) := of_decide_eq_true (by first | (with_reducible assumption) | assumption)
                  have hx66 := bt_at a0 x7_1
                  replace p66 := eq_true p66
                  replace q66 := eq_true q66
                  go_wp2
                  go_meet
                  case rel => exact ⟨_, (false), (by first | with_reducible rfl | (simp only [pps, Nat.reduceAdd, Int.toNat_natCast]; done) | rfl | (simp; done) | (simp [*]; done)), H', ⟨by have := HK1.out; have := HJ4.out; have := HJ33.out; first | omega | exact Nat.le_refl _⟩, ⟨by (with_reducible repeat (first | apply Kd.R_alloc | apply Kd.R_drewN | apply Kd.R_drew)); exact HO_3.out⟩, ⟨by (with_reducible repeat (first | refine blk_drewN ?_ _ | refine blk_drew ?_ | refine blk_alloc ?_ _)); exact BK226.out⟩, ⟨by repeat (first | (with_reducible first | exact HB.out | apply below_alloc | apply pw_below_drewN | apply below_drew1 | refine below_set ?_ GE226.out) | exact HB.out)⟩⟩
                case rest =>
                 clear HC65
                 try clear c1
                 try clear p1
                 try clear q1
                 try clear hx1
                 try clear c2
                 try clear c2b0
                 try clear p2
                 try clear q2
                 try clear hx2
                 try clear c3
                 try clear c3b0
                 try clear p3
                 try clear q3
                 try clear hx3
                 try clear c4
                 try clear p4
                 try clear q4
                 try clear hx4
                 try clear c5
                 try clear p5
                 try clear q5
                 try clear hx5
                 try clear c6
                 try clear p6
                 try clear q6
                 try clear hx6
                 try clear p8
                 try clear q8
                 try clear hx8
                 try clear c9
                 try clear c9b0
                 try clear c9b1
                 try clear c10
                 try clear c10b0
                 try clear c11
                 try clear c11b0
                 try clear c12
                 try clear c12b0
                 try clear p13
                 try clear q13
                 try clear hx13
                 try clear c14
                 try clear c14b0
                 try clear c14b1
                 try clear c15
                 try clear c16
                 try clear p21
                 try clear q21
                 try clear hx21
                 try clear c22
                 try clear c22b0
                 try clear c22b1
                 try clear c23
                 try clear p26
                 try clear q26
                 try clear hx26
                 try clear c27
                 try clear c27b0
                 try clear c27b1
                 try clear c28
                 try clear c31
                 try clear c35
                 try clear c36
                 try clear c37
                 try clear c37b0
                 try clear c38
                 try clear c38b0
                 try clear p39
                 try clear q39
                 try clear hx39
                 try clear c40
                 try clear c42
                 try clear c42b0
                 try clear c43
                 try clear c43b0
                 try clear p44
                 try clear q44
                 try clear hx44
                 try clear c45
                 try clear c49
                 try clear c49b0
                 try clear c50
                 try clear c50b0
                 try clear p51
                 try clear q51
                 try clear hx51
                 try clear c52
                 try clear c52b0
                 try clear c52b1
                 try clear c53
                 try clear c56
                 try clear c57
                 try clear p60
                 try clear q60
                 try clear hx60
                 try clear c61
                 try clear c61b0
                 try clear c61b1
                 try clear c62
                 try clear p64
                 try clear p66
                 try clear q66
                 try clear hx66
                 try clear c67
                 try clear c67b0
                 try clear c67b1
                 try clear hcz17_0
                 try clear hcz17_1
                 try clear hcz19_0
                 try clear hcz19_1
                 try clear hcz24_0
                 try clear hcz24_1
                 try clear hcz29_0
                 try clear hcz29_1
                 try clear hcz32_0
                 try clear hcz32_1
                 try clear hcz47_0
                 try clear hcz47_1
                 try clear hcz54_0
                 try clear hcz54_1
                 try clear hcz58_0
                 try clear hcz58_1
                 try clear hcz63_0
                 try clear hcz63_1
                 try clear hcz7_0
                 try clear hcz7_1
                 try clear hfz17_0
                 try clear hfz17_1
                 try clear hfz19_0
                 try clear hfz19_1
                 try clear hfz24_0
                 try clear hfz24_1
                 try clear hfz29_0
                 try clear hfz29_1
                 try clear hfz32_0
                 try clear hfz32_1
                 try clear hfz47_0
                 try clear hfz47_1
                 try clear hfz54_0
                 try clear hfz54_1
                 try clear hfz58_0
                 try clear hfz58_1
                 try clear hfz63_0
                 try clear hfz63_1
                 try clear hfz7_0
                 try clear hfz7_1
                 try clear p1
                 try clear p13
                 try clear p2
                 try clear p21
                 try clear p26
                 try clear p39
                 try clear p4
                 try clear p44
                 try clear p51
                 try clear p6
                 try clear p60
                 try clear p66
                 try clear p8
                 try clear q1
                 try clear q13
                 try clear q2
                 try clear q21
                 try clear q26
                 try clear q39
                 try clear q4
                 try clear q44
                 try clear q51
                 try clear q60
                 try clear q66
                 try clear q8
                 obtain ⟨kq, x91_64, rfl, HA, HJ64, HO_3, BK226, HB⟩ := hcut
                 cases kq with
                 | zero => exact absurd HA.out (by simp [haversackref10_Marks.j3])
                 | succ kj64 =>
                  have H := HA.out
                  clear HA
                  simp only [haversackref10_Marks.j3] at H
                  by_cases c68 : x91_64 = true
                  ·
                   subst c68
                   have H1 : (if x3_1.length < 8796093022208 then (haversackref10_Marks.l0 kj64 a0 (x3_1 ++ [(⟨(bt a0 x7_1), 2⟩ : S74)]) false true x6_1 (wrap64 (x7_1 + 1))) else (none)) = some r := by rw [if_pos rfl] at H; exact H
                   clear H
                   have H := H1
                   clear H1
                   by_cases c69 : x3_1.length < 8796093022208
                   ·
                    rw [if_pos c69] at H
                    have LMc69 := Aside0.mk c69
                    clear c69
                    obtain ⟨y257, hy257⟩ : ∃ y_ : List (S74), y_ = (x3_1 ++ [(⟨(bt a0 x7_1), 2⟩ : S74)]) := ⟨_, rfl⟩
                    replace H : (haversackref10_Marks.l0 kj64 a0 y257 false true x6_1 (wrap64 (x7_1 + 1))) = some r := by first | (rw [hy257]; with_reducible exact H) | (have H2_ := (Option.bind_some _ _).symm.trans H; rw [hy257]; with_reducible exact H2_) | (have H2_ := (Option.bind_some _ _).symm.trans H; with_reducible exact H2_) | with_reducible exact H | (rw [hy257]; exact H) | exact H
                    have Ny257 := Aside0.mk hy257
                    clear hy257
                    have H' := Aside0.mk H
                    clear H
                    have hcz70_0 : wc.cell? ⟨gb226, 0, none⟩ = some (.int .u8 (bt a0 x7_1)) := (blk_cell BK226.out 0).trans rfl
                    have hcz70_1 : wc.cell? ⟨gb226, 1, none⟩ = some (.int .i64 0) := (blk_cell BK226.out 1).trans rfl
                    have hfz70_0 := blk_frozen BK226.out 0
                    have hfz70_1 := blk_frozen BK226.out 1
                    go_wp2_with (first | ((with_reducible refine gate_builtin (b := .append) (xs := #[.tmp 120, .tmp 122]) rfl ?_); (try (refine gate_guard (by rfl) ?_; dsimp only)); at_builtin; refine Kd.R_append k74 (w0 := w) w.heap.size rfl (.tmp 120) (.tmp 122) 71 74 (.agg #[(.int .u8 0), (.int .i64 0)]) 16 rfl Tryd.underlying71 info74 rfl (by decide) (by omega) u3 x3_1 (⟨(bt a0 x7_1), 2⟩ : S74) [.int .u8 (bt a0 x7_1), .int .i64 2] (fun k_ => k_ ≠ gb226) (fun _ => False) rfl (by first | (go_simp; done) | (go_simp; rfl)) ?aP (fun _ hk => hk.elim) ?aF ?aO ?aB ?aS ?aL ?_; (case aP => exact k74_mkM _ _ _ (⟨(bt a0 x7_1), 2⟩ : S74)); (case aB => exact (by repeat (first | (with_reducible first | exact HB.out | apply below_alloc | apply pw_below_drewN | apply below_drew1 | refine below_set ?_ GE226.out) | exact HB.out))); (case aF => exact (fun k_ hk => Kd.freshB (g := gb226) (o := .cells #[.int .u8 (bt a0 x7_1), .int .i64 2] 74 (0, 0)) (by (with_reducible repeat (first | refine blk_drewN ?_ _ | refine blk_drew ?_ | refine blk_alloc ?_ _)); refine blk_put (cs := #[.int .u8 (bt a0 x7_1), .int .i64 0]) ?_ 1 _ rfl; (with_reducible repeat (first | refine blk_drewN ?_ _ | refine blk_drew ?_ | refine blk_alloc ?_ _)); exact BK226.out) k_ hk)); (case aO => exact (by (with_reducible repeat (first | apply Kd.R_alloc | apply Kd.R_drewN | apply Kd.R_drew)); exact Kd.R_mono (Kd.R_far (p := ⟨gb226, 1, none⟩) (Kd.R_mono HO_3.out (fun k_ hk => (⟨hk, hk⟩ : _ ∧ k_ ≠ gb226))) (fun _ hk => hk.2) (.int .i64 2)) (fun _ hk => hk.1))); (case aS => exact (below_size (by repeat (first | (with_reducible first | exact HB.out | apply below_alloc | apply pw_below_drewN | apply below_drew1 | refine below_set ?_ GE226.out) | exact HB.out)))); (case aL => have := LMc69.out; omega); intro v258 w71 ho hb hg hat; rw [← Ny257.out] at ho; have n0_ := Aside0.mk (blk_grown (g := gb226) (o := .cells #[.int .u8 (bt a0 x7_1), .int .i64 2] 74 (0, 0)) (by (with_reducible repeat (first | refine blk_drewN ?_ _ | refine blk_drew ?_ | refine blk_alloc ?_ _)); refine blk_put (cs := #[.int .u8 (bt a0 x7_1), .int .i64 0]) ?_ 1 _ rfl; (with_reducible repeat (first | refine blk_drewN ?_ _ | refine blk_drew ?_ | refine blk_alloc ?_ _)); exact BK226.out) hg (Kd.R_away HO_3.out (fun _ hk => hk))); have n1_ := Aside0.mk (hb); have n2_ := Aside0.mk (ho); clear BK226; clear HB; clear HO_3; have BK226 := n0_; have HB := n1_; have HO259 := n2_; clear n0_ n1_ n2_; clear ho hb hg hat))
                    go_roundg kj64
                    case measure => have := HK1.out; have := HJ4.out; have := HJ33.out; have := HJ64.out; omega
                    case rel => exact ⟨(y257), (false), (true), (x6_1), (wrap64 (x7_1 + 1)), (by first | with_reducible rfl | (simp only [pps, Nat.reduceAdd, Int.toNat_natCast]; done) | rfl | (simp; done) | (simp [*]; done)), (by first | with_reducible rfl | (simp only [pps, Nat.reduceAdd, Int.toNat_natCast]; done) | rfl | (simp; done) | (simp [*]; done)), (by first | with_reducible rfl | (simp only [pps, Nat.reduceAdd, Int.toNat_natCast]; done) | rfl | (simp; done) | (simp [*]; done)), (by first | with_reducible rfl | (simp only [pps, Nat.reduceAdd, Int.toNat_natCast]; done) | rfl | (simp; done) | (simp [*]; done)), H', ⟨by have := HK1.out; have := HJ4.out; have := HJ33.out; have := HJ64.out; omega⟩, ⟨by (with_reducible repeat (first | apply Kd.R_alloc | apply Kd.R_drewN | apply Kd.R_drew)); exact Kd.R_mono HO259.out (fun _ hk => trivial)⟩, ⟨by repeat (first | (with_reducible first | exact HB.out | apply below_alloc | apply pw_below_drewN | apply below_drew1 | refine below_set ?_ GE226.out) | exact HB.out)⟩⟩
                   ·
                    rw [if_neg c69] at H
                    exact absurd H (by simp)
                  ·
                   replace c68 := Bool.eq_false_iff.mpr c68
                   subst c68
                   have H1 : (if 0 ≤ x7_1 then (if x7_1 < (a0.size : Int) then (if (bt a0 x7_1) = 62 then (haversackref10_Marks.j4 kj64 a0 x3_1 false x5_1 x6_1 x7_1 x5_1 (bt a0 x7_1) 0) else (haversackref10_Marks.j4 kj64 a0 x3_1 false x5_1 x6_1 x7_1 false (bt a0 x7_1) 0)) else (none)) else (none)) = some r := by rw [if_neg (show ¬ (false = true) by decide)] at H; exact H
                   clear H
                   have H := H1
                   clear H1
                   have HC72 := Aside0.mk H
                   clear H
                   go_upto_region 32 with (fail)
                   go_cut [101] (fun v101 wc => ∃ (kq : Nat) (x101_71 : Bool), v101 = .bool x101_71 ∧ Aside0 (haversackref10_Marks.j4 kq a0 x3_1 false x5_1 x6_1 x7_1 x101_71 (bt a0 x7_1) 0 = some r) ∧ Aside0 (kq ≤ kj64) ∧ Aside0 (Kd.R k74 74 wc w.heap.size (fun k_ => k_ ≠ gb226) u3 x3_1) ∧ Aside0 (wc.heap[gb226]? = some (.cells #[.int .u8 (bt a0 x7_1), .int .i64 0] 74 (0, 0))) ∧ Aside0 (Below w.heap.size w wc))
                   case first =>
                    have H := HC72.out
                    clear HC72
                    by_cases c73 : 0 ≤ x7_1
                    ·
                     rw [if_pos c73] at H
                     have c73b0 : decide (0 ≤ x7_1) = true := decide_eq_true c73
                     clear c73
                     (first | rw [c73b0] | (simp only [i64_w, i32_w]; rw [c73b0]) | skip)
                     by_cases c74 : x7_1 < (a0.size : Int)
                     ·
                      rw [if_pos c74] at H
                      have c74b0 : decide (x7_1 < (a0.size : Int)) = true := decide_eq_true c74
                      clear c74
                      by_cases c76 : (bt a0 x7_1) = 62
                      ·
                       rw [if_pos c76] at H
                       have c76b0 : ((bt a0 x7_1) == 62) = true := beq_iff_eq.mpr c76
                       have c76b1 : ((bt a0 x7_1) != 62) = false := bne_eq_false_iff_eq.mpr c76
                       clear c76
                       have H' := Aside0.mk H
                       clear H
                       have p75 : 0 ≤ (x7_1 : Int) := of_decide_eq_true (by first | (with_reducible assumption) | assumption)
                       have q75 : x7_1 < (a0.size : Int) := of_decide_eq_true (by first | (with_reducible assumption) | assumption)
                       have hx75 := bt_at a0 x7_1
                       replace p75 := eq_true p75
                       replace q75 := eq_true q75
                       go_wp2
                       go_meet
                       case rel => exact ⟨_, (x5_1), (by first | with_reducible rfl | (simp only [pps, Nat.reduceAdd, Int.toNat_natCast]; done) | rfl | (simp; done) | (simp [*]; done)), H', ⟨by have := HK1.out; have := HJ4.out; have := HJ33.out; have := HJ64.out; first | omega | exact Nat.le_refl _⟩, ⟨by (with_reducible repeat (first | apply Kd.R_alloc | apply Kd.R_drewN | apply Kd.R_drew)); exact HO_3.out⟩, ⟨by (with_reducible repeat (first | refine blk_drewN ?_ _ | refine blk_drew ?_ | refine blk_alloc ?_ _)); exact BK226.out⟩, ⟨by repeat (first | (with_reducible first | exact HB.out | apply below_alloc | apply pw_below_drewN | apply below_drew1 | refine below_set ?_ GE226.out) | exact HB.out)⟩⟩
                      ·
                       rw [if_neg c76] at H
                       have c76b0 : ((bt a0 x7_1) == 62) = false := beq_eq_false_iff_ne.mpr c76
                       have c76b1 : ((bt a0 x7_1) != 62) = true := bne_iff_ne.mpr c76
                       have H' := Aside0.mk H
                       clear H
                       have p75 : 0 ≤ (x7_1 : Int) := of_decide_eq_true (by first | (with_reducible assumption) | assumption)
                       have q75 : x7_1 < (a0.size : Int) := of_decide_eq_true (by first | (with_reducible assumption) | assumption)
                       have hx75 := bt_at a0 x7_1
                       replace p75 := eq_true p75
                       replace q75 := eq_true q75
                       go_wp2
                       go_meet
                       case rel => exact ⟨_, (false), (by first | with_reducible rfl | (simp only [pps, Nat.reduceAdd, Int.toNat_natCast]; done) | rfl | (simp; done) | (simp [*]; done)), H', ⟨by have := HK1.out; have := HJ4.out; have := HJ33.out; have := HJ64.out; first | omega | exact Nat.le_refl _⟩, ⟨by (with_reducible repeat (first | apply Kd.R_alloc | apply Kd.R_drewN | apply Kd.R_drew)); exact HO_3.out⟩, ⟨by (with_reducible repeat (first | refine blk_drewN ?_ _ | refine blk_drew ?_ | refine blk_alloc ?_ _)); exact BK226.out⟩, ⟨by repeat (first | (with_reducible first | exact HB.out | apply below_alloc | apply pw_below_drewN | apply below_drew1 | refine below_set ?_ GE226.out) | exact HB.out)⟩⟩
                     ·
                      rw [if_neg c74] at H
                      exact absurd H (by simp)
                    ·
                     rw [if_neg c73] at H
                     exact absurd H (by simp)
                   case rest =>
                    clear HC72
                    try clear c1
                    try clear p1
                    try clear q1
                    try clear hx1
                    try clear c2
                    try clear c2b0
                    try clear p2
                    try clear q2
                    try clear hx2
                    try clear c3
                    try clear c3b0
                    try clear p3
                    try clear q3
                    try clear hx3
                    try clear c4
                    try clear p4
                    try clear q4
                    try clear hx4
                    try clear c5
                    try clear p5
                    try clear q5
                    try clear hx5
                    try clear c6
                    try clear p6
                    try clear q6
                    try clear hx6
                    try clear c7
                    try clear p7
                    try clear q7
                    try clear hx7
                    try clear p8
                    try clear q8
                    try clear hx8
                    try clear c9
                    try clear c9b0
                    try clear c9b1
                    try clear c10
                    try clear c10b0
                    try clear c11
                    try clear c11b0
                    try clear c12
                    try clear c12b0
                    try clear p13
                    try clear q13
                    try clear hx13
                    try clear c14
                    try clear c14b0
                    try clear c14b1
                    try clear c15
                    try clear c16
                    try clear p21
                    try clear q21
                    try clear hx21
                    try clear c22
                    try clear c22b0
                    try clear c22b1
                    try clear c23
                    try clear p26
                    try clear q26
                    try clear hx26
                    try clear c27
                    try clear c27b0
                    try clear c27b1
                    try clear c28
                    try clear c31
                    try clear c35
                    try clear c36
                    try clear c37
                    try clear c37b0
                    try clear c38
                    try clear c38b0
                    try clear p39
                    try clear q39
                    try clear hx39
                    try clear c40
                    try clear c42
                    try clear c42b0
                    try clear c43
                    try clear c43b0
                    try clear p44
                    try clear q44
                    try clear hx44
                    try clear c45
                    try clear c49
                    try clear c49b0
                    try clear c50
                    try clear c50b0
                    try clear p51
                    try clear q51
                    try clear hx51
                    try clear c52
                    try clear c52b0
                    try clear c52b1
                    try clear c53
                    try clear c56
                    try clear c57
                    try clear p60
                    try clear q60
                    try clear hx60
                    try clear c61
                    try clear c61b0
                    try clear c61b1
                    try clear c62
                    try clear p64
                    try clear p66
                    try clear q66
                    try clear hx66
                    try clear c67
                    try clear c67b0
                    try clear c67b1
                    try clear c68
                    try clear c69
                    try clear c73
                    try clear c73b0
                    try clear c74
                    try clear c74b0
                    try clear p75
                    try clear q75
                    try clear hx75
                    try clear c76
                    try clear c76b0
                    try clear c76b1
                    try clear hcz17_0
                    try clear hcz17_1
                    try clear hcz19_0
                    try clear hcz19_1
                    try clear hcz24_0
                    try clear hcz24_1
                    try clear hcz29_0
                    try clear hcz29_1
                    try clear hcz32_0
                    try clear hcz32_1
                    try clear hcz47_0
                    try clear hcz47_1
                    try clear hcz54_0
                    try clear hcz54_1
                    try clear hcz58_0
                    try clear hcz58_1
                    try clear hcz63_0
                    try clear hcz63_1
                    try clear hcz70_0
                    try clear hcz70_1
                    try clear hcz7_0
                    try clear hcz7_1
                    try clear hfz17_0
                    try clear hfz17_1
                    try clear hfz19_0
                    try clear hfz19_1
                    try clear hfz24_0
                    try clear hfz24_1
                    try clear hfz29_0
                    try clear hfz29_1
                    try clear hfz32_0
                    try clear hfz32_1
                    try clear hfz47_0
                    try clear hfz47_1
                    try clear hfz54_0
                    try clear hfz54_1
                    try clear hfz58_0
                    try clear hfz58_1
                    try clear hfz63_0
                    try clear hfz63_1
                    try clear hfz70_0
                    try clear hfz70_1
                    try clear hfz7_0
                    try clear hfz7_1
                    try clear p1
                    try clear p13
                    try clear p2
                    try clear p21
                    try clear p26
                    try clear p3
                    try clear p39
                    try clear p4
                    try clear p44
                    try clear p5
                    try clear p51
                    try clear p6
                    try clear p60
                    try clear p64
                    try clear p66
                    try clear p75
                    try clear p8
                    try clear q1
                    try clear q13
                    try clear q2
                    try clear q21
                    try clear q26
                    try clear q3
                    try clear q39
                    try clear q4
                    try clear q44
                    try clear q5
                    try clear q51
                    try clear q6
                    try clear q60
                    try clear q66
                    try clear q75
                    try clear q8
                    obtain ⟨kq, x101_71, rfl, HA, HJ71, HO_3, BK226, HB⟩ := hcut
                    cases kq with
                    | zero => exact absurd HA.out (by simp [haversackref10_Marks.j4])
                    | succ kj71 =>
                     have H := HA.out
                     clear HA
                     simp only [haversackref10_Marks.j4] at H
                     by_cases c77 : x101_71 = true
                     ·
                      subst c77
                      have H1 : (if x3_1.length < 8796093022208 then (haversackref10_Marks.l0 kj71 a0 (x3_1 ++ [(⟨(bt a0 x7_1), 3⟩ : S74)]) false false x6_1 (wrap64 (x7_1 + 1))) else (none)) = some r := by rw [if_pos rfl] at H; exact H
                      clear H
                      have H := H1
                      clear H1
                      by_cases c78 : x3_1.length < 8796093022208
                      ·
                       rw [if_pos c78] at H
                       have LMc78 := Aside0.mk c78
                       clear c78
                       obtain ⟨y260, hy260⟩ : ∃ y_ : List (S74), y_ = (x3_1 ++ [(⟨(bt a0 x7_1), 3⟩ : S74)]) := ⟨_, rfl⟩
                       replace H : (haversackref10_Marks.l0 kj71 a0 y260 false false x6_1 (wrap64 (x7_1 + 1))) = some r := by first | (rw [hy260]; with_reducible exact H) | (have H2_ := (Option.bind_some _ _).symm.trans H; rw [hy260]; with_reducible exact H2_) | (have H2_ := (Option.bind_some _ _).symm.trans H; with_reducible exact H2_) | with_reducible exact H | (rw [hy260]; exact H) | exact H
                       have Ny260 := Aside0.mk hy260
                       clear hy260
                       have H' := Aside0.mk H
                       clear H
                       have hcz79_0 : wc.cell? ⟨gb226, 0, none⟩ = some (.int .u8 (bt a0 x7_1)) := (blk_cell BK226.out 0).trans rfl
                       have hcz79_1 : wc.cell? ⟨gb226, 1, none⟩ = some (.int .i64 0) := (blk_cell BK226.out 1).trans rfl
                       have hfz79_0 := blk_frozen BK226.out 0
                       have hfz79_1 := blk_frozen BK226.out 1
                       go_wp2_with (first | ((with_reducible refine gate_builtin (b := .append) (xs := #[.tmp 120, .tmp 122]) rfl ?_); (try (refine gate_guard (by rfl) ?_; dsimp only)); at_builtin; refine Kd.R_append k74 (w0 := w) w.heap.size rfl (.tmp 120) (.tmp 122) 71 74 (.agg #[(.int .u8 0), (.int .i64 0)]) 16 rfl Tryd.underlying71 info74 rfl (by decide) (by omega) u3 x3_1 (⟨(bt a0 x7_1), 3⟩ : S74) [.int .u8 (bt a0 x7_1), .int .i64 3] (fun k_ => k_ ≠ gb226) (fun _ => False) rfl (by first | (go_simp; done) | (go_simp; rfl)) ?aP (fun _ hk => hk.elim) ?aF ?aO ?aB ?aS ?aL ?_; (case aP => exact k74_mkM _ _ _ (⟨(bt a0 x7_1), 3⟩ : S74)); (case aB => exact (by repeat (first | (with_reducible first | exact HB.out | apply below_alloc | apply pw_below_drewN | apply below_drew1 | refine below_set ?_ GE226.out) | exact HB.out))); (case aF => exact (fun k_ hk => Kd.freshB (g := gb226) (o := .cells #[.int .u8 (bt a0 x7_1), .int .i64 3] 74 (0, 0)) (by (with_reducible repeat (first | refine blk_drewN ?_ _ | refine blk_drew ?_ | refine blk_alloc ?_ _)); refine blk_put (cs := #[.int .u8 (bt a0 x7_1), .int .i64 0]) ?_ 1 _ rfl; (with_reducible repeat (first | refine blk_drewN ?_ _ | refine blk_drew ?_ | refine blk_alloc ?_ _)); exact BK226.out) k_ hk)); (case aO => exact (by (with_reducible repeat (first | apply Kd.R_alloc | apply Kd.R_drewN | apply Kd.R_drew)); exact Kd.R_mono (Kd.R_far (p := ⟨gb226, 1, none⟩) (Kd.R_mono HO_3.out (fun k_ hk => (⟨hk, hk⟩ : _ ∧ k_ ≠ gb226))) (fun _ hk => hk.2) (.int .i64 3)) (fun _ hk => hk.1))); (case aS => exact (below_size (by repeat (first | (with_reducible first | exact HB.out | apply below_alloc | apply pw_below_drewN | apply below_drew1 | refine below_set ?_ GE226.out) | exact HB.out)))); (case aL => have := LMc78.out; omega); intro v261 w80 ho hb hg hat; rw [← Ny260.out] at ho; have n0_ := Aside0.mk (blk_grown (g := gb226) (o := .cells #[.int .u8 (bt a0 x7_1), .int .i64 3] 74 (0, 0)) (by (with_reducible repeat (first | refine blk_drewN ?_ _ | refine blk_drew ?_ | refine blk_alloc ?_ _)); refine blk_put (cs := #[.int .u8 (bt a0 x7_1), .int .i64 0]) ?_ 1 _ rfl; (with_reducible repeat (first | refine blk_drewN ?_ _ | refine blk_drew ?_ | refine blk_alloc ?_ _)); exact BK226.out) hg (Kd.R_away HO_3.out (fun _ hk => hk))); have n1_ := Aside0.mk (hb); have n2_ := Aside0.mk (ho); clear BK226; clear HB; clear HO_3; have BK226 := n0_; have HB := n1_; have HO262 := n2_; clear n0_ n1_ n2_; clear ho hb hg hat))
                       go_roundg kj71
                       case measure => have := HK1.out; have := HJ4.out; have := HJ33.out; have := HJ64.out; have := HJ71.out; omega
                       case rel => exact ⟨(y260), (false), (false), (x6_1), (wrap64 (x7_1 + 1)), (by first | with_reducible rfl | (simp only [pps, Nat.reduceAdd, Int.toNat_natCast]; done) | rfl | (simp; done) | (simp [*]; done)), (by first | with_reducible rfl | (simp only [pps, Nat.reduceAdd, Int.toNat_natCast]; done) | rfl | (simp; done) | (simp [*]; done)), (by first | with_reducible rfl | (simp only [pps, Nat.reduceAdd, Int.toNat_natCast]; done) | rfl | (simp; done) | (simp [*]; done)), (by first | with_reducible rfl | (simp only [pps, Nat.reduceAdd, Int.toNat_natCast]; done) | rfl | (simp; done) | (simp [*]; done)), H', ⟨by have := HK1.out; have := HJ4.out; have := HJ33.out; have := HJ64.out; have := HJ71.out; omega⟩, ⟨by (with_reducible repeat (first | apply Kd.R_alloc | apply Kd.R_drewN | apply Kd.R_drew)); exact Kd.R_mono HO262.out (fun _ hk => trivial)⟩, ⟨by repeat (first | (with_reducible first | exact HB.out | apply below_alloc | apply pw_below_drewN | apply below_drew1 | refine below_set ?_ GE226.out) | exact HB.out)⟩⟩
                      ·
                       rw [if_neg c78] at H
                       exact absurd H (by simp)
                     ·
                      replace c77 := Bool.eq_false_iff.mpr c77
                      subst c77
                      have H1 : (if 0 ≤ x7_1 then (if x7_1 < (a0.size : Int) then (if (bt a0 x7_1) = 44 then (if x5_1 = true then (if x3_1.length < 8796093022208 then (haversackref10_Marks.l0 kj71 a0 (x3_1 ++ [(⟨(bt a0 x7_1), 0⟩ : S74)]) false x5_1 x6_1 (wrap64 (x7_1 + 1))) else (none)) else (if x3_1.length < 8796093022208 then (haversackref10_Marks.l0 kj71 a0 (x3_1 ++ [(⟨(bt a0 x7_1), 4⟩ : S74)]) false x5_1 x6_1 (wrap64 (x7_1 + 1))) else (none))) else (if x3_1.length < 8796093022208 then (haversackref10_Marks.l0 kj71 a0 (x3_1 ++ [(⟨(bt a0 x7_1), 0⟩ : S74)]) false x5_1 x6_1 (wrap64 (x7_1 + 1))) else (none))) else (none)) else (none)) = some r := by rw [if_neg (show ¬ (false = true) by decide)] at H; exact H
                      clear H
                      have H := H1
                      clear H1
                      by_cases c81 : 0 ≤ x7_1
                      ·
                       rw [if_pos c81] at H
                       have c81b0 : decide (0 ≤ x7_1) = true := decide_eq_true c81
                       clear c81
                       by_cases c82 : x7_1 < (a0.size : Int)
                       ·
                        rw [if_pos c82] at H
                        have c82b0 : decide (x7_1 < (a0.size : Int)) = true := decide_eq_true c82
                        clear c82
                        by_cases c84 : (bt a0 x7_1) = 44
                        ·
                         rw [if_pos c84] at H
                         have c84b0 : ((bt a0 x7_1) == 44) = true := beq_iff_eq.mpr c84
                         have c84b1 : ((bt a0 x7_1) != 44) = false := bne_eq_false_iff_eq.mpr c84
                         clear c84
                         by_cases c85 : x5_1 = true
                         ·
                          subst c85
                          have H1 : (if x3_1.length < 8796093022208 then (haversackref10_Marks.l0 kj71 a0 (x3_1 ++ [(⟨(bt a0 x7_1), 0⟩ : S74)]) false true x6_1 (wrap64 (x7_1 + 1))) else (none)) = some r := by rw [if_pos rfl] at H; exact H
                          clear H
                          have H := H1
                          clear H1
                          by_cases c86 : x3_1.length < 8796093022208
                          ·
                           rw [if_pos c86] at H
                           have LMc86 := Aside0.mk c86
                           clear c86
                           obtain ⟨y263, hy263⟩ : ∃ y_ : List (S74), y_ = (x3_1 ++ [(⟨(bt a0 x7_1), 0⟩ : S74)]) := ⟨_, rfl⟩
                           replace H : (haversackref10_Marks.l0 kj71 a0 y263 false true x6_1 (wrap64 (x7_1 + 1))) = some r := by first | (rw [hy263]; with_reducible exact H) | (have H2_ := (Option.bind_some _ _).symm.trans H; rw [hy263]; with_reducible exact H2_) | (have H2_ := (Option.bind_some _ _).symm.trans H; with_reducible exact H2_) | with_reducible exact H | (rw [hy263]; exact H) | exact H
                           have Ny263 := Aside0.mk hy263
                           clear hy263
                           have H' := Aside0.mk H
                           clear H
                           have p83 : 0 ≤ (x7_1 : Int) := of_decide_eq_true (by first | (with_reducible assumption) | assumption)
                           have q83 : x7_1 < (a0.size : Int) := of_decide_eq_true (by first | (with_reducible assumption) | assumption)
                           have hx83 := bt_at a0 x7_1
                           replace p83 := eq_true p83
                           replace q83 := eq_true q83
                           have hcz87_0 : wc.cell? ⟨gb226, 0, none⟩ = some (.int .u8 (bt a0 x7_1)) := (blk_cell BK226.out 0).trans rfl
                           have hcz87_1 : wc.cell? ⟨gb226, 1, none⟩ = some (.int .i64 0) := (blk_cell BK226.out 1).trans rfl
                           have hfz87_0 := blk_frozen BK226.out 0
                           have hfz87_1 := blk_frozen BK226.out 1
                           go_wp2_with (first | ((with_reducible refine gate_builtin (b := .append) (xs := #[.tmp 120, .tmp 122]) rfl ?_); (try (refine gate_guard (by rfl) ?_; dsimp only)); at_builtin; refine Kd.R_append k74 (w0 := w) w.heap.size rfl (.tmp 120) (.tmp 122) 71 74 (.agg #[(.int .u8 0), (.int .i64 0)]) 16 rfl Tryd.underlying71 info74 rfl (by decide) (by omega) u3 x3_1 (⟨(bt a0 x7_1), 0⟩ : S74) [.int .u8 (bt a0 x7_1), .int .i64 0] (fun k_ => k_ ≠ gb226) (fun _ => False) rfl rfl ?aP (fun _ hk => hk.elim) ?aF ?aO ?aB ?aS ?aL ?_; (case aP => exact k74_mkM _ _ _ (⟨(bt a0 x7_1), 0⟩ : S74)); (case aB => exact (by repeat (first | (with_reducible first | exact HB.out | apply below_alloc | apply pw_below_drewN | apply below_drew1 | refine below_set ?_ GE226.out) | exact HB.out))); (case aF => exact (fun k_ hk => Kd.freshB (g := gb226) (o := .cells #[.int .u8 (bt a0 x7_1), .int .i64 0] 74 (0, 0)) (by (with_reducible repeat (first | refine blk_drewN ?_ _ | refine blk_drew ?_ | refine blk_alloc ?_ _)); exact BK226.out) k_ hk)); (case aO => exact (by (with_reducible repeat (first | apply Kd.R_alloc | apply Kd.R_drewN | apply Kd.R_drew)); exact HO_3.out)); (case aS => exact (below_size (by repeat (first | (with_reducible first | exact HB.out | apply below_alloc | apply pw_below_drewN | apply below_drew1 | refine below_set ?_ GE226.out) | exact HB.out)))); (case aL => have := LMc86.out; omega); intro v264 w88 ho hb hg hat; rw [← Ny263.out] at ho; have n0_ := Aside0.mk (blk_grown (g := gb226) (o := .cells #[.int .u8 (bt a0 x7_1), .int .i64 0] 74 (0, 0)) (by (with_reducible repeat (first | refine blk_drewN ?_ _ | refine blk_drew ?_ | refine blk_alloc ?_ _)); exact BK226.out) hg (Kd.R_away HO_3.out (fun _ hk => hk))); have n1_ := Aside0.mk (hb); have n2_ := Aside0.mk (ho); clear BK226; clear HB; clear HO_3; have BK226 := n0_; have HB := n1_; have HO265 := n2_; clear n0_ n1_ n2_; clear ho hb hg hat))
                           go_roundg kj71
                           case measure => have := HK1.out; have := HJ4.out; have := HJ33.out; have := HJ64.out; have := HJ71.out; omega
                           case rel => exact ⟨(y263), (false), (true), (x6_1), (wrap64 (x7_1 + 1)), (by first | with_reducible rfl | (simp only [pps, Nat.reduceAdd, Int.toNat_natCast]; done) | rfl | (simp; done) | (simp [*]; done)), (by first | with_reducible rfl | (simp only [pps, Nat.reduceAdd, Int.toNat_natCast]; done) | rfl | (simp; done) | (simp [*]; done)), (by first | with_reducible rfl | (simp only [pps, Nat.reduceAdd, Int.toNat_natCast]; done) | rfl | (simp; done) | (simp [*]; done)), (by first | with_reducible rfl | (simp only [pps, Nat.reduceAdd, Int.toNat_natCast]; done) | rfl | (simp; done) | (simp [*]; done)), H', ⟨by have := HK1.out; have := HJ4.out; have := HJ33.out; have := HJ64.out; have := HJ71.out; omega⟩, ⟨by (with_reducible repeat (first | apply Kd.R_alloc | apply Kd.R_drewN | apply Kd.R_drew)); exact Kd.R_mono HO265.out (fun _ hk => trivial)⟩, ⟨by repeat (first | (with_reducible first | exact HB.out | apply below_alloc | apply pw_below_drewN | apply below_drew1 | refine below_set ?_ GE226.out) | exact HB.out)⟩⟩
                          ·
                           rw [if_neg c86] at H
                           exact absurd H (by simp)
                         ·
                          replace c85 := Bool.eq_false_iff.mpr c85
                          subst c85
                          have H1 : (if x3_1.length < 8796093022208 then (haversackref10_Marks.l0 kj71 a0 (x3_1 ++ [(⟨(bt a0 x7_1), 4⟩ : S74)]) false false x6_1 (wrap64 (x7_1 + 1))) else (none)) = some r := by rw [if_neg (show ¬ (false = true) by decide)] at H; exact H
                          clear H
                          have H := H1
                          clear H1
                          by_cases c89 : x3_1.length < 8796093022208
                          ·
                           rw [if_pos c89] at H
                           have LMc89 := Aside0.mk c89
                           clear c89
                           obtain ⟨y266, hy266⟩ : ∃ y_ : List (S74), y_ = (x3_1 ++ [(⟨(bt a0 x7_1), 4⟩ : S74)]) := ⟨_, rfl⟩
                           replace H : (haversackref10_Marks.l0 kj71 a0 y266 false false x6_1 (wrap64 (x7_1 + 1))) = some r := by first | (rw [hy266]; with_reducible exact H) | (have H2_ := (Option.bind_some _ _).symm.trans H; rw [hy266]; with_reducible exact H2_) | (have H2_ := (Option.bind_some _ _).symm.trans H; with_reducible exact H2_) | with_reducible exact H | (rw [hy266]; exact H) | exact H
                           have Ny266 := Aside0.mk hy266
                           clear hy266
                           have H' := Aside0.mk H
                           clear H
                           have p83 : 0 ≤ (x7_1 : Int) := of_decide_eq_true (by first | (with_reducible assumption) | assumption)
                           have q83 : x7_1 < (a0.size : Int) := of_decide_eq_true (by first | (with_reducible assumption) | assumption)
                           have hx83 := bt_at a0 x7_1
                           replace p83 := eq_true p83
                           replace q83 := eq_true q83
                           have hcz90_0 : wc.cell? ⟨gb226, 0, none⟩ = some (.int .u8 (bt a0 x7_1)) := (blk_cell BK226.out 0).trans rfl
                           have hcz90_1 : wc.cell? ⟨gb226, 1, none⟩ = some (.int .i64 0) := (blk_cell BK226.out 1).trans rfl
                           have hfz90_0 := blk_frozen BK226.out 0
                           have hfz90_1 := blk_frozen BK226.out 1
                           go_wp2_with (first | ((with_reducible refine gate_builtin (b := .append) (xs := #[.tmp 120, .tmp 122]) rfl ?_); (try (refine gate_guard (by rfl) ?_; dsimp only)); at_builtin; refine Kd.R_append k74 (w0 := w) w.heap.size rfl (.tmp 120) (.tmp 122) 71 74 (.agg #[(.int .u8 0), (.int .i64 0)]) 16 rfl Tryd.underlying71 info74 rfl (by decide) (by omega) u3 x3_1 (⟨(bt a0 x7_1), 4⟩ : S74) [.int .u8 (bt a0 x7_1), .int .i64 4] (fun k_ => k_ ≠ gb226) (fun _ => False) rfl (by first | (go_simp; done) | (go_simp; rfl)) ?aP (fun _ hk => hk.elim) ?aF ?aO ?aB ?aS ?aL ?_; (case aP => exact k74_mkM _ _ _ (⟨(bt a0 x7_1), 4⟩ : S74)); (case aB => exact (by repeat (first | (with_reducible first | exact HB.out | apply below_alloc | apply pw_below_drewN | apply below_drew1 | refine below_set ?_ GE226.out) | exact HB.out))); (case aF => exact (fun k_ hk => Kd.freshB (g := gb226) (o := .cells #[.int .u8 (bt a0 x7_1), .int .i64 4] 74 (0, 0)) (by (with_reducible repeat (first | refine blk_drewN ?_ _ | refine blk_drew ?_ | refine blk_alloc ?_ _)); refine blk_put (cs := #[.int .u8 (bt a0 x7_1), .int .i64 0]) ?_ 1 _ rfl; (with_reducible repeat (first | refine blk_drewN ?_ _ | refine blk_drew ?_ | refine blk_alloc ?_ _)); exact BK226.out) k_ hk)); (case aO => exact (by (with_reducible repeat (first | apply Kd.R_alloc | apply Kd.R_drewN | apply Kd.R_drew)); exact Kd.R_mono (Kd.R_far (p := ⟨gb226, 1, none⟩) (Kd.R_mono HO_3.out (fun k_ hk => (⟨hk, hk⟩ : _ ∧ k_ ≠ gb226))) (fun _ hk => hk.2) (.int .i64 4)) (fun _ hk => hk.1))); (case aS => exact (below_size (by repeat (first | (with_reducible first | exact HB.out | apply below_alloc | apply pw_below_drewN | apply below_drew1 | refine below_set ?_ GE226.out) | exact HB.out)))); (case aL => have := LMc89.out; omega); intro v267 w91 ho hb hg hat; rw [← Ny266.out] at ho; have n0_ := Aside0.mk (blk_grown (g := gb226) (o := .cells #[.int .u8 (bt a0 x7_1), .int .i64 4] 74 (0, 0)) (by (with_reducible repeat (first | refine blk_drewN ?_ _ | refine blk_drew ?_ | refine blk_alloc ?_ _)); refine blk_put (cs := #[.int .u8 (bt a0 x7_1), .int .i64 0]) ?_ 1 _ rfl; (with_reducible repeat (first | refine blk_drewN ?_ _ | refine blk_drew ?_ | refine blk_alloc ?_ _)); exact BK226.out) hg (Kd.R_away HO_3.out (fun _ hk => hk))); have n1_ := Aside0.mk (hb); have n2_ := Aside0.mk (ho); clear BK226; clear HB; clear HO_3; have BK226 := n0_; have HB := n1_; have HO268 := n2_; clear n0_ n1_ n2_; clear ho hb hg hat))
                           go_roundg kj71
                           case measure => have := HK1.out; have := HJ4.out; have := HJ33.out; have := HJ64.out; have := HJ71.out; omega
                           case rel => exact ⟨(y266), (false), (false), (x6_1), (wrap64 (x7_1 + 1)), (by first | with_reducible rfl | (simp only [pps, Nat.reduceAdd, Int.toNat_natCast]; done) | rfl | (simp; done) | (simp [*]; done)), (by first | with_reducible rfl | (simp only [pps, Nat.reduceAdd, Int.toNat_natCast]; done) | rfl | (simp; done) | (simp [*]; done)), (by first | with_reducible rfl | (simp only [pps, Nat.reduceAdd, Int.toNat_natCast]; done) | rfl | (simp; done) | (simp [*]; done)), (by first | with_reducible rfl | (simp only [pps, Nat.reduceAdd, Int.toNat_natCast]; done) | rfl | (simp; done) | (simp [*]; done)), H', ⟨by have := HK1.out; have := HJ4.out; have := HJ33.out; have := HJ64.out; have := HJ71.out; omega⟩, ⟨by (with_reducible repeat (first | apply Kd.R_alloc | apply Kd.R_drewN | apply Kd.R_drew)); exact Kd.R_mono HO268.out (fun _ hk => trivial)⟩, ⟨by repeat (first | (with_reducible first | exact HB.out | apply below_alloc | apply pw_below_drewN | apply below_drew1 | refine below_set ?_ GE226.out) | exact HB.out)⟩⟩
                          ·
                           rw [if_neg c89] at H
                           exact absurd H (by simp)
                        ·
                         rw [if_neg c84] at H
                         have c84b0 : ((bt a0 x7_1) == 44) = false := beq_eq_false_iff_ne.mpr c84
                         have c84b1 : ((bt a0 x7_1) != 44) = true := bne_iff_ne.mpr c84
                         by_cases c92 : x3_1.length < 8796093022208
                         ·
                          rw [if_pos c92] at H
                          have LMc92 := Aside0.mk c92
                          clear c92
                          obtain ⟨y269, hy269⟩ : ∃ y_ : List (S74), y_ = (x3_1 ++ [(⟨(bt a0 x7_1), 0⟩ : S74)]) := ⟨_, rfl⟩
                          replace H : (haversackref10_Marks.l0 kj71 a0 y269 false x5_1 x6_1 (wrap64 (x7_1 + 1))) = some r := by first | (rw [hy269]; with_reducible exact H) | (have H2_ := (Option.bind_some _ _).symm.trans H; rw [hy269]; with_reducible exact H2_) | (have H2_ := (Option.bind_some _ _).symm.trans H; with_reducible exact H2_) | with_reducible exact H | (rw [hy269]; exact H) | exact H
                          have Ny269 := Aside0.mk hy269
                          clear hy269
                          have H' := Aside0.mk H
                          clear H
                          have p83 : 0 ≤ (x7_1 : Int) := of_decide_eq_true (by first | (with_reducible assumption) | assumption)
                          have q83 : x7_1 < (a0.size : Int) := of_decide_eq_true (by first | (with_reducible assumption) | assumption)
                          have hx83 := bt_at a0 x7_1
                          replace p83 := eq_true p83
                          replace q83 := eq_true q83
                          have hcz93_0 : wc.cell? ⟨gb226, 0, none⟩ = some (.int .u8 (bt a0 x7_1)) := (blk_cell BK226.out 0).trans rfl
                          have hcz93_1 : wc.cell? ⟨gb226, 1, none⟩ = some (.int .i64 0) := (blk_cell BK226.out 1).trans rfl
                          have hfz93_0 := blk_frozen BK226.out 0
                          have hfz93_1 := blk_frozen BK226.out 1
                          go_wp2_with (first | ((with_reducible refine gate_builtin (b := .append) (xs := #[.tmp 120, .tmp 122]) rfl ?_); (try (refine gate_guard (by rfl) ?_; dsimp only)); at_builtin; refine Kd.R_append k74 (w0 := w) w.heap.size rfl (.tmp 120) (.tmp 122) 71 74 (.agg #[(.int .u8 0), (.int .i64 0)]) 16 rfl Tryd.underlying71 info74 rfl (by decide) (by omega) u3 x3_1 (⟨(bt a0 x7_1), 0⟩ : S74) [.int .u8 (bt a0 x7_1), .int .i64 0] (fun k_ => k_ ≠ gb226) (fun _ => False) rfl rfl ?aP (fun _ hk => hk.elim) ?aF ?aO ?aB ?aS ?aL ?_; (case aP => exact k74_mkM _ _ _ (⟨(bt a0 x7_1), 0⟩ : S74)); (case aB => exact (by repeat (first | (with_reducible first | exact HB.out | apply below_alloc | apply pw_below_drewN | apply below_drew1 | refine below_set ?_ GE226.out) | exact HB.out))); (case aF => exact (fun k_ hk => Kd.freshB (g := gb226) (o := .cells #[.int .u8 (bt a0 x7_1), .int .i64 0] 74 (0, 0)) (by (with_reducible repeat (first | refine blk_drewN ?_ _ | refine blk_drew ?_ | refine blk_alloc ?_ _)); exact BK226.out) k_ hk)); (case aO => exact (by (with_reducible repeat (first | apply Kd.R_alloc | apply Kd.R_drewN | apply Kd.R_drew)); exact HO_3.out)); (case aS => exact (below_size (by repeat (first | (with_reducible first | exact HB.out | apply below_alloc | apply pw_below_drewN | apply below_drew1 | refine below_set ?_ GE226.out) | exact HB.out)))); (case aL => have := LMc92.out; omega); intro v270 w94 ho hb hg hat; rw [← Ny269.out] at ho; have n0_ := Aside0.mk (blk_grown (g := gb226) (o := .cells #[.int .u8 (bt a0 x7_1), .int .i64 0] 74 (0, 0)) (by (with_reducible repeat (first | refine blk_drewN ?_ _ | refine blk_drew ?_ | refine blk_alloc ?_ _)); exact BK226.out) hg (Kd.R_away HO_3.out (fun _ hk => hk))); have n1_ := Aside0.mk (hb); have n2_ := Aside0.mk (ho); clear BK226; clear HB; clear HO_3; have BK226 := n0_; have HB := n1_; have HO271 := n2_; clear n0_ n1_ n2_; clear ho hb hg hat))
                          go_roundg kj71
                          case measure => have := HK1.out; have := HJ4.out; have := HJ33.out; have := HJ64.out; have := HJ71.out; omega
                          case rel => exact ⟨(y269), (false), (x5_1), (x6_1), (wrap64 (x7_1 + 1)), (by first | with_reducible rfl | (simp only [pps, Nat.reduceAdd, Int.toNat_natCast]; done) | rfl | (simp; done) | (simp [*]; done)), (by first | with_reducible rfl | (simp only [pps, Nat.reduceAdd, Int.toNat_natCast]; done) | rfl | (simp; done) | (simp [*]; done)), (by first | with_reducible rfl | (simp only [pps, Nat.reduceAdd, Int.toNat_natCast]; done) | rfl | (simp; done) | (simp [*]; done)), (by first | with_reducible rfl | (simp only [pps, Nat.reduceAdd, Int.toNat_natCast]; done) | rfl | (simp; done) | (simp [*]; done)), H', ⟨by have := HK1.out; have := HJ4.out; have := HJ33.out; have := HJ64.out; have := HJ71.out; omega⟩, ⟨by (with_reducible repeat (first | apply Kd.R_alloc | apply Kd.R_drewN | apply Kd.R_drew)); exact Kd.R_mono HO271.out (fun _ hk => trivial)⟩, ⟨by repeat (first | (with_reducible first | exact HB.out | apply below_alloc | apply pw_below_drewN | apply below_drew1 | refine below_set ?_ GE226.out) | exact HB.out)⟩⟩
                         ·
                          rw [if_neg c92] at H
                          exact absurd H (by simp)
                       ·
                        rw [if_neg c82] at H
                        exact absurd H (by simp)
                      ·
                       rw [if_neg c81] at H
                       exact absurd H (by simp)
            ·
             rw [if_neg c50] at H
             exact absurd H (by simp)
           ·
            rw [if_neg c49] at H
            exact absurd H (by simp)
    ·
     rw [if_neg c3] at H
     exact absurd H (by simp)
   ·
    rw [if_neg c2] at H
    have c2b0 : decide (x7_1 < (a0.size : Int)) = false := decide_eq_false c2
    clear c2
    obtain rfl := Option.some.inj H
    go_wp2
    go_ret
    exact ⟨_, by first | rfl | (simp [errW_none, errW_some] <;> rfl) | (simp [*, errW_none, errW_some] <;> rfl), by (with_reducible repeat (first | apply Kd.R_alloc | apply Kd.R_drewN | apply Kd.R_drew)); exact HO_3.out, by repeat (first | (with_reducible first | exact HB.out | apply below_alloc | apply pw_below_drewN | apply below_drew1) | exact HB.out)⟩
end Go.Proofs.YtkngjdhggcaonaaDoor.PP
