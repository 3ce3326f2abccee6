/- YtkngjdhggcaonaaDoorPPx10, as far as HeaderEnvelopes needs it (prune.py). -/
import Derived.Test.YtkngjdhggcaonaaDoorHeaderEnvelopesPPx0
namespace Go.Proofs.YtkngjdhggcaonaaDoor.PP
open Go.RowKit Go.Proofs.YtkngjdhggcaonaaDoorW.PrintWords Go.Proofs.YtkngjdhggcaonaaDoorW.PrintLast Go.Proofs.YtkngjdhggcaonaaDoorW.PrintMore
attribute [local go_sem] max2_int min2_int max_two min_two max_three min_three max_four min_four   -- for this text's walks alone
open Go.Proofs.YtkngjdhggcaonaaDoor.My
set_option linter.unusedVariables false
set_option linter.unusedSimpArgs false
def header_remark.l0 : Nat → ByteArray → Int → Int → Option (Int)
 | 0, _, _, _ => none
 | k + 1, x0, x1, x5 => if x1 < (x0.size : Int) then (if 0 ≤ x1 then (if (bt x0 x1) = 92 then (header_remark.l0 k x0 (wrap64 ((wrap64 (x1 + 1)) + 1)) x5) else (if (bt x0 x1) = 40 then (header_remark.l0 k x0 (wrap64 (x1 + 1)) (wrap64 (x5 + 1))) else (if (bt x0 x1) = 41 then (if (wrap64 (x5 - 1)) = 0 then (some (wrap64 (x1 + 1))) else (header_remark.l0 k x0 (wrap64 (x1 + 1)) (wrap64 (x5 - 1)))) else (header_remark.l0 k x0 (wrap64 (x1 + 1)) x5)))) else (none)) else (some (x0.size : Int))
def header_remark.f (k : Nat) (a0 : ByteArray) (a1 : Int) : Option (Int) := header_remark.l0 k a0 a1 0
theorem header_remark.mono_l : ∀ k, (∀ y0 y1 y2, LeO (header_remark.l0 k y0 y1 y2) (header_remark.l0 (k + 1) y0 y1 y2))
 | 0 => fun _ _ _ r h => by simp [header_remark.l0] at h
 | k + 1 => by
  have ih0 := header_remark.mono_l k
  ·
   intro y0 y1 y2
   unfold header_remark.l0
   repeat' first
   | (with_reducible exact ih0 _ _ _)
   | (with_reducible exact LeO.refl _)
   | (with_reducible exact LeO.none _)
   | (with_reducible refine LeO.ite ?_ ?_)
   | (with_reducible refine LeO.bind ?_ (fun _ => ?_))
   | exact ih0 _ _ _
   | exact LeO.none _
   | refine LeO.ite ?_ ?_
   | refine LeO.bind ?_ (fun _ => ?_)
theorem header_remark.mono : ∀ a0 a1 k, LeO (header_remark.f k a0 a1) (header_remark.f (k + 1) a0 a1) := by
 intro a0 a1 k
 have ih0 := header_remark.mono_l k
 unfold header_remark.f
 repeat' first
   | (with_reducible exact ih0 _ _ _)
   | (with_reducible exact LeO.refl _)
   | (with_reducible exact LeO.none _)
   | (with_reducible refine LeO.ite ?_ ?_)
   | (with_reducible refine LeO.bind ?_ (fun _ => ?_))
   | exact ih0 _ _ _
   | exact LeO.none _
   | refine LeO.ite ?_ ?_
   | refine LeO.bind ?_ (fun _ => ?_)
set_option maxHeartbeats 8000000 in
set_option maxRecDepth 100000 in
theorem header_remark.calls (k : Nat) (a0 : ByteArray) (a1 : Int) (r : Int) (w : World) (h : header_remark.f k a0 a1 = some r) :
  Calls Tryd.prog 39 #[.string a0, .int .i64 a1] w fun e w' => e = .returned (.int .i64 r) ∧ Drawn0 w w' := by
 have H : (header_remark.l0 k a0 a1 0) = some r := h
 clear h
 have H' := Aside0.mk H
 clear H
 go_enter Tryd.func39, Tryd.ntmps39
 go_wp2
 go_loopg [1, 5] k (fun kq v1 v5 w' => ∃ (x1_1 : Int) (x5_1 : Int), v1 = .int .i64 x1_1 ∧ v5 = .int .i64 x5_1 ∧ Aside0 (header_remark.l0 kq a0 x1_1 x5_1 = some r) ∧ Aside0 (kq ≤ k) ∧ Drawn0 w w')
 case atStart => exact ⟨(a1), (0), (by first | with_reducible rfl | (simp only [pps, Nat.reduceAdd, Int.toNat_natCast]; done) | rfl | (simp; done) | (simp [*]; done)), (by first | with_reducible rfl | (simp only [pps, Nat.reduceAdd, Int.toNat_natCast]; done) | rfl | (simp; done) | (simp [*]; done)), H', ⟨Nat.le_refl _⟩, by repeat (first | exact Drawn0.refl _ | apply Drawn0.step)⟩
 case round =>
  clear H'
  try clear p2
  obtain ⟨x1_1, x5_1, rfl, rfl, HA, HK1, ⟨m1, rfl⟩⟩ := hrel
  cases gk with
  | zero => exact absurd HA.out (by simp [header_remark.l0])
  | succ k1 =>
   have H := HA.out
   clear HA
   simp only [header_remark.l0] at H
   by_cases c3 : x1_1 < (a0.size : Int)
   ·
    rw [if_pos c3] at H
    have c3b0 : decide (x1_1 < (a0.size : Int)) = true := decide_eq_true c3
    clear c3
    by_cases c4 : 0 ≤ x1_1
    ·
     rw [if_pos c4] at H
     have c4b0 : decide (0 ≤ x1_1) = true := decide_eq_true c4
     clear c4
     by_cases c6 : (bt a0 x1_1) = 92
     ·
      rw [if_pos c6] at H
      have c6b0 : ((bt a0 x1_1) == 92) = true := beq_iff_eq.mpr c6
      have c6b1 : ((bt a0 x1_1) != 92) = false := bne_eq_false_iff_eq.mpr c6
      clear c6
      have H' := Aside0.mk H
      clear H
      have p5 : 0 ≤ (x1_1 : Int) := of_decide_eq_true (by first | (with_reducible assumption) | assumption)
      have q5 : x1_1 < (a0.size : Int) := of_decide_eq_true (by first | (with_reducible assumption) | assumption)
      have hx5 := bt_at a0 x1_1
      replace p5 := eq_true p5
      replace q5 := eq_true q5
      go_wp2
      go_roundg k1
      case measure => have := HK1.out; omega
      case rel => exact ⟨(wrap64 ((wrap64 (x1_1 + 1)) + 1)), (x5_1), (by first | with_reducible rfl | (simp only [pps, Nat.reduceAdd, Int.toNat_natCast]; done) | rfl | (simp; done) | (simp [*]; done)), (by first | with_reducible rfl | (simp only [pps, Nat.reduceAdd, Int.toNat_natCast]; done) | rfl | (simp; done) | (simp [*]; done)), H', ⟨by have := HK1.out; omega⟩, by repeat (first | exact Drawn0.refl _ | apply Drawn0.step)⟩
     ·
      rw [if_neg c6] at H
      have c6b0 : ((bt a0 x1_1) == 92) = false := beq_eq_false_iff_ne.mpr c6
      have c6b1 : ((bt a0 x1_1) != 92) = true := bne_iff_ne.mpr c6
      by_cases c7 : (bt a0 x1_1) = 40
      ·
       rw [if_pos c7] at H
       have c7b0 : ((bt a0 x1_1) == 40) = true := beq_iff_eq.mpr c7
       have c7b1 : ((bt a0 x1_1) != 40) = false := bne_eq_false_iff_eq.mpr c7
       clear c7
       have H' := Aside0.mk H
       clear H
       have p5 : 0 ≤ (x1_1 : Int) := of_decide_eq_true (by first | (with_reducible assumption) | assumption)
       have q5 : x1_1 < (a0.size : Int) := of_decide_eq_true (by first | (with_reducible assumption) | assumption)
       have hx5 := bt_at a0 x1_1
       replace p5 := eq_true p5
       replace q5 := eq_true q5
       go_wp2
       go_roundg k1
       case measure => have := HK1.out; omega
       case rel => exact ⟨(wrap64 (x1_1 + 1)), (wrap64 (x5_1 + 1)), (by first | with_reducible rfl | (simp only [pps, Nat.reduceAdd, Int.toNat_natCast]; done) | rfl | (simp; done) | (simp [*]; done)), (by first | with_reducible rfl | (simp only [pps, Nat.reduceAdd, Int.toNat_natCast]; done) | rfl | (simp; done) | (simp [*]; done)), H', ⟨by have := HK1.out; omega⟩, by repeat (first | exact Drawn0.refl _ | apply Drawn0.step)⟩
      ·
       rw [if_neg c7] at H
       have c7b0 : ((bt a0 x1_1) == 40) = false := beq_eq_false_iff_ne.mpr c7
       have c7b1 : ((bt a0 x1_1) != 40) = true := bne_iff_ne.mpr c7
       by_cases c8 : (bt a0 x1_1) = 41
       ·
        rw [if_pos c8] at H
        have c8b0 : ((bt a0 x1_1) == 41) = true := beq_iff_eq.mpr c8
        have c8b1 : ((bt a0 x1_1) != 41) = false := bne_eq_false_iff_eq.mpr c8
        clear c8
        by_cases c9 : (wrap64 (x5_1 - 1)) = 0
        ·
         rw [if_pos c9] at H
         have c9b0 : ((wrap64 (x5_1 - 1)) == 0) = true := beq_iff_eq.mpr c9
         have c9b1 : ((wrap64 (x5_1 - 1)) != 0) = false := bne_eq_false_iff_eq.mpr c9
         clear c9
         obtain rfl := Option.some.inj H
         have p5 : 0 ≤ (x1_1 : Int) := of_decide_eq_true (by first | (with_reducible assumption) | assumption)
         have q5 : x1_1 < (a0.size : Int) := of_decide_eq_true (by first | (with_reducible assumption) | assumption)
         have hx5 := bt_at a0 x1_1
         replace p5 := eq_true p5
         replace q5 := eq_true q5
         go_wp2
         go_ret
         exact ⟨by first | with_reducible rfl | (simp only [pps, Nat.reduceAdd, Int.toNat_natCast]; done) | rfl | (simp; done) | (simp [*]; done), by repeat (first | exact Drawn0.refl _ | apply Drawn0.step)⟩
        ·
         rw [if_neg c9] at H
         have c9b0 : ((wrap64 (x5_1 - 1)) == 0) = false := beq_eq_false_iff_ne.mpr c9
         have c9b1 : ((wrap64 (x5_1 - 1)) != 0) = true := bne_iff_ne.mpr c9
         have H' := Aside0.mk H
         clear H
         have p5 : 0 ≤ (x1_1 : Int) := of_decide_eq_true (by first | (with_reducible assumption) | assumption)
         have q5 : x1_1 < (a0.size : Int) := of_decide_eq_true (by first | (with_reducible assumption) | assumption)
         have hx5 := bt_at a0 x1_1
         replace p5 := eq_true p5
         replace q5 := eq_true q5
         go_wp2
         go_roundg k1
         case measure => have := HK1.out; omega
         case rel => exact ⟨(wrap64 (x1_1 + 1)), (wrap64 (x5_1 - 1)), (by first | with_reducible rfl | (simp only [pps, Nat.reduceAdd, Int.toNat_natCast]; done) | rfl | (simp; done) | (simp [*]; done)), (by first | with_reducible rfl | (simp only [pps, Nat.reduceAdd, Int.toNat_natCast]; done) | rfl | (simp; done) | (simp [*]; done)), H', ⟨by have := HK1.out; omega⟩, by repeat (first | exact Drawn0.refl _ | apply Drawn0.step)⟩
       ·
        rw [if_neg c8] at H
        have c8b0 : ((bt a0 x1_1) == 41) = false := beq_eq_false_iff_ne.mpr c8
        have c8b1 : ((bt a0 x1_1) != 41) = true := bne_iff_ne.mpr c8
        have H' := Aside0.mk H
        clear H
        have p5 : 0 ≤ (x1_1 : Int) := of_decide_eq_true (by first | (with_reducible assumption) | assumption)
        have q5 : x1_1 < (a0.size : Int) := of_decide_eq_true (by first | (with_reducible assumption) | assumption)
        have hx5 := bt_at a0 x1_1
        replace p5 := eq_true p5
        replace q5 := eq_true q5
        go_wp2
        go_roundg k1
        case measure => have := HK1.out; omega
        case rel => exact ⟨(wrap64 (x1_1 + 1)), (x5_1), (by first | with_reducible rfl | (simp only [pps, Nat.reduceAdd, Int.toNat_natCast]; done) | rfl | (simp; done) | (simp [*]; done)), (by first | with_reducible rfl | (simp only [pps, Nat.reduceAdd, Int.toNat_natCast]; done) | rfl | (simp; done) | (simp [*]; done)), H', ⟨by have := HK1.out; omega⟩, by repeat (first | exact Drawn0.refl _ | apply Drawn0.step)⟩
    ·
     rw [if_neg c4] at H
     exact absurd H (by simp)
   ·
    rw [if_neg c3] at H
    have c3b0 : decide (x1_1 < (a0.size : Int)) = false := decide_eq_false c3
    clear c3
    obtain rfl := Option.some.inj H
    go_wp2
    go_ret
    exact ⟨by first | with_reducible rfl | (simp only [pps, Nat.reduceAdd, Int.toNat_natCast]; done) | rfl | (simp; done) | (simp [*]; done), by repeat (first | exact Drawn0.refl _ | apply Drawn0.step)⟩
end Go.Proofs.YtkngjdhggcaonaaDoor.PP
