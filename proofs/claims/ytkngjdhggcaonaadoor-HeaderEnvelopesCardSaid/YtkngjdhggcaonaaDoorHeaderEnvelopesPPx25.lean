/- YtkngjdhggcaonaaDoorPPx25, as far as HeaderEnvelopes needs it (prune.py). -/
import Derived.Test.YtkngjdhggcaonaaDoorHeaderEnvelopesPPx0
namespace Go.Proofs.YtkngjdhggcaonaaDoor.PP
open Go.RowKit Go.Proofs.YtkngjdhggcaonaaDoorW.PrintWords Go.Proofs.YtkngjdhggcaonaaDoorW.PrintLast Go.Proofs.YtkngjdhggcaonaaDoorW.PrintMore
attribute [local go_sem] max2_int min2_int max_two min_two max_three min_three max_four min_four   -- for this text's walks alone
open Go.Proofs.YtkngjdhggcaonaaDoor.My
set_option linter.unusedVariables false
set_option linter.unusedSimpArgs false
mutual
def haversackref10_Trim.j1 : Nat → ByteArray → Bool → Option (ByteArray)
 | 0, _, _ => none
 | k + 1, x0, x1 => haversackref10_Trim.l1 k x0 x1
def haversackref10_Trim.l1 : Nat → ByteArray → Bool → Option (ByteArray)
 | 0, _, _ => none
 | k + 1, x0, x1 => if (x0.size : Int) > 0 then (if 0 ≤ (wrap64 ((x0.size : Int) - 1)) then (if (wrap64 ((x0.size : Int) - 1)) < (x0.size : Int) then (if (bt x0 (wrap64 ((x0.size : Int) - 1))) = 32 then (if (wrap64 ((x0.size : Int) - 1)) ≤ (x0.size : Int) then (haversackref10_Trim.l1 k (x0.extract 0 ((wrap64 ((x0.size : Int) - 1)) : Int).toNat) x1) else (none)) else (if (bt x0 (wrap64 ((x0.size : Int) - 1))) = 9 then (if (wrap64 ((x0.size : Int) - 1)) ≤ (x0.size : Int) then (haversackref10_Trim.l1 k (x0.extract 0 ((wrap64 ((x0.size : Int) - 1)) : Int).toNat) x1) else (none)) else (if x1 = true then (if (bt x0 (wrap64 ((x0.size : Int) - 1))) = 10 then (if (wrap64 ((x0.size : Int) - 1)) ≤ (x0.size : Int) then (haversackref10_Trim.l1 k (x0.extract 0 ((wrap64 ((x0.size : Int) - 1)) : Int).toNat) x1) else (none)) else (if (bt x0 (wrap64 ((x0.size : Int) - 1))) = 13 then (if (wrap64 ((x0.size : Int) - 1)) ≤ (x0.size : Int) then (haversackref10_Trim.l1 k (x0.extract 0 ((wrap64 ((x0.size : Int) - 1)) : Int).toNat) x1) else (none)) else (some x0))) else (some x0)))) else (none)) else (none)) else (some x0)
def haversackref10_Trim.l0 : Nat → ByteArray → Bool → Option (ByteArray)
 | 0, _, _ => none
 | k + 1, x0, x1 => if (x0.size : Int) > 0 then (if 0 < (x0.size : Int) then (if (bt x0 0) = 32 then (if 1 ≤ (x0.size : Int) then (haversackref10_Trim.l0 k (x0.extract 1 x0.size) x1) else (none)) else (if (bt x0 0) = 9 then (if 1 ≤ (x0.size : Int) then (haversackref10_Trim.l0 k (x0.extract 1 x0.size) x1) else (none)) else (if x1 = true then (if (bt x0 0) = 10 then (if 1 ≤ (x0.size : Int) then (haversackref10_Trim.l0 k (x0.extract 1 x0.size) x1) else (none)) else (if (bt x0 0) = 13 then (if 1 ≤ (x0.size : Int) then (haversackref10_Trim.l0 k (x0.extract 1 x0.size) x1) else (none)) else (haversackref10_Trim.j1 k x0 x1))) else (haversackref10_Trim.j1 k x0 x1)))) else (none)) else (haversackref10_Trim.j1 k x0 x1)
end
def haversackref10_Trim.f (k : Nat) (a0 : ByteArray) (a1 : Bool) : Option (ByteArray) := haversackref10_Trim.l0 k a0 a1
set_option maxHeartbeats 8000000 in
set_option maxRecDepth 100000 in
theorem haversackref10_Trim.calls (k : Nat) (a0 : ByteArray) (a1 : Bool) (r : ByteArray) (w : World) (h : haversackref10_Trim.f k a0 a1 = some r) :
  Calls Tryd.prog 47 #[.string a0, .bool a1] w fun e w' => e = .returned (.string r) ∧ Drawn0 w w' := by
 have H : (haversackref10_Trim.l0 k a0 a1) = some r := h
 clear h
 have HC3 := Aside0.mk H
 clear H
 go_enter Tryd.func47, Tryd.ntmps47
 go_upto_block 0 with (fail)
 go_cut [0] (fun v0 wc => ∃ (kq : Nat) (x0_2 : ByteArray), v0 = .string x0_2 ∧ Aside0 (haversackref10_Trim.j1 kq x0_2 a1 = some r) ∧ Aside0 (kq ≤ k) ∧ Drawn0 w wc)
 case first =>
  have H := HC3.out
  clear HC3
  have H' := Aside0.mk H
  clear H
  go_wp2
  go_loopg [0] k (fun kq v0 w' => ∃ (x0_1 : ByteArray), v0 = .string x0_1 ∧ Aside0 (haversackref10_Trim.l0 kq x0_1 a1 = some r) ∧ Aside0 (kq ≤ k) ∧ Drawn0 w w')
  case atStart => exact ⟨(a0), (by first | with_reducible rfl | (simp only [pps, Nat.reduceAdd, Int.toNat_natCast]; done) | rfl | (simp; done) | (simp [*]; done)), H', ⟨Nat.le_refl _⟩, by repeat (first | exact Drawn0.refl _ | apply Drawn0.step)⟩
  case round =>
   clear H'
   try clear p2
   obtain ⟨x0_1, rfl, HA, HK1, ⟨m1, rfl⟩⟩ := hrel
   cases gk with
   | zero => exact absurd HA.out (by simp [haversackref10_Trim.l0])
   | succ k1 =>
    have H := HA.out
    clear HA
    simp only [haversackref10_Trim.l0] at H
    by_cases c4 : (x0_1.size : Int) > 0
    ·
     rw [if_pos c4] at H
     have c4b0 : decide (0 < (x0_1.size : Int)) = true := decide_eq_true c4
     have c4b1 : decide (0 < x0_1.size) = true := decide_eq_true (by omega)
     clear c4
     (first | rw [c4b0] | (simp only [i64_w, i32_w]; rw [c4b0]) | skip)
     by_cases c5 : 0 < (x0_1.size : Int)
     ·
      rw [if_pos c5] at H
      have c5b0 : decide (0 < (x0_1.size : Int)) = true := decide_eq_true c5
      have c5b1 : decide (0 < x0_1.size) = true := decide_eq_true (by omega)
      clear c5
      by_cases c7 : (bt x0_1 0) = 32
      ·
       rw [if_pos c7] at H
       have c7b0 : ((bt x0_1 0) == 32) = true := beq_iff_eq.mpr c7
       have c7b1 : ((bt x0_1 0) != 32) = false := bne_eq_false_iff_eq.mpr c7
       clear c7
       by_cases c8 : 1 ≤ (x0_1.size : Int)
       ·
        rw [if_pos c8] at H
        have c8b0 := eq_true c8
        have c8b1 : decide (1 ≤ (x0_1.size : Int)) = true := decide_eq_true c8
        clear c8
        have H' := Aside0.mk H
        clear H
        have p6 : 0 ≤ (0 : Int) := (by omega)
        have q6 : 0 < x0_1.size := (by have : (0 : Int) < (x0_1.size : Int) := of_decide_eq_true (by first | (with_reducible assumption) | assumption); omega)
        have hx6 : ∀ h : 0 < x0_1.size, ((x0_1[0]'h).toNat : Int) = bt x0_1 0 := bt_at x0_1 0
        clear p6
        have qi6 : (0 < (x0_1.size : Int)) = True := eq_true (of_decide_eq_true (by first | (with_reducible assumption) | assumption))
        replace q6 := eq_true q6
        go_wp2
        go_roundg k1
        case measure => have := HK1.out; omega
        case rel => exact ⟨(x0_1.extract 1 x0_1.size), (by first | with_reducible rfl | (simp only [pps, Nat.reduceAdd, Int.toNat_natCast]; done) | rfl | (simp; done) | (simp [*]; done)), H', ⟨by have := HK1.out; omega⟩, by repeat (first | exact Drawn0.refl _ | apply Drawn0.step)⟩
       ·
        rw [if_neg c8] at H
        exact absurd H (by simp)
      ·
       rw [if_neg c7] at H
       have c7b0 : ((bt x0_1 0) == 32) = false := beq_eq_false_iff_ne.mpr c7
       have c7b1 : ((bt x0_1 0) != 32) = true := bne_iff_ne.mpr c7
       by_cases c10 : (bt x0_1 0) = 9
       ·
        rw [if_pos c10] at H
        have c10b0 : ((bt x0_1 0) == 9) = true := beq_iff_eq.mpr c10
        have c10b1 : ((bt x0_1 0) != 9) = false := bne_eq_false_iff_eq.mpr c10
        clear c10
        by_cases c11 : 1 ≤ (x0_1.size : Int)
        ·
         rw [if_pos c11] at H
         have c11b0 := eq_true c11
         have c11b1 : decide (1 ≤ (x0_1.size : Int)) = true := decide_eq_true c11
         clear c11
         have H' := Aside0.mk H
         clear H
         have p6 : 0 ≤ (0 : Int) := (by omega)
         have q6 : 0 < x0_1.size := (by have : (0 : Int) < (x0_1.size : Int) := of_decide_eq_true (by first | (with_reducible assumption) | assumption); omega)
         have hx6 : ∀ h : 0 < x0_1.size, ((x0_1[0]'h).toNat : Int) = bt x0_1 0 := bt_at x0_1 0
         clear p6
         have qi6 : (0 < (x0_1.size : Int)) = True := eq_true (of_decide_eq_true (by first | (with_reducible assumption) | assumption))
         replace q6 := eq_true q6
         have p9 : 0 ≤ (0 : Int) := (by omega)
         have q9 : 0 < x0_1.size := (by have : (0 : Int) < (x0_1.size : Int) := of_decide_eq_true (by first | (with_reducible assumption) | assumption); omega)
         have hx9 : ∀ h : 0 < x0_1.size, ((x0_1[0]'h).toNat : Int) = bt x0_1 0 := bt_at x0_1 0
         clear p9
         have qi9 : (0 < (x0_1.size : Int)) = True := eq_true (of_decide_eq_true (by first | (with_reducible assumption) | assumption))
         replace q9 := eq_true q9
         go_wp2
         go_roundg k1
         case measure => have := HK1.out; omega
         case rel => exact ⟨(x0_1.extract 1 x0_1.size), (by first | with_reducible rfl | (simp only [pps, Nat.reduceAdd, Int.toNat_natCast]; done) | rfl | (simp; done) | (simp [*]; done)), H', ⟨by have := HK1.out; omega⟩, by repeat (first | exact Drawn0.refl _ | apply Drawn0.step)⟩
        ·
         rw [if_neg c11] at H
         exact absurd H (by simp)
       ·
        rw [if_neg c10] at H
        have c10b0 : ((bt x0_1 0) == 9) = false := beq_eq_false_iff_ne.mpr c10
        have c10b1 : ((bt x0_1 0) != 9) = true := bne_iff_ne.mpr c10
        by_cases c12 : a1 = true
        ·
         subst c12
         have H1 : (if (bt x0_1 0) = 10 then (if 1 ≤ (x0_1.size : Int) then (haversackref10_Trim.l0 k1 (x0_1.extract 1 x0_1.size) true) else (none)) else (if (bt x0_1 0) = 13 then (if 1 ≤ (x0_1.size : Int) then (haversackref10_Trim.l0 k1 (x0_1.extract 1 x0_1.size) true) else (none)) else (haversackref10_Trim.j1 k1 x0_1 true))) = some r := by rw [if_pos rfl] at H; exact H
         clear H
         have H := H1
         clear H1
         by_cases c14 : (bt x0_1 0) = 10
         ·
          rw [if_pos c14] at H
          have c14b0 : ((bt x0_1 0) == 10) = true := beq_iff_eq.mpr c14
          have c14b1 : ((bt x0_1 0) != 10) = false := bne_eq_false_iff_eq.mpr c14
          clear c14
          by_cases c15 : 1 ≤ (x0_1.size : Int)
          ·
           rw [if_pos c15] at H
           have c15b0 := eq_true c15
           have c15b1 : decide (1 ≤ (x0_1.size : Int)) = true := decide_eq_true c15
           clear c15
           have H' := Aside0.mk H
           clear H
           have p6 : 0 ≤ (0 : Int) := (by omega)
           have q6 : 0 < x0_1.size := (by have : (0 : Int) < (x0_1.size : Int) := of_decide_eq_true (by first | (with_reducible assumption) | assumption); omega)
           have hx6 : ∀ h : 0 < x0_1.size, ((x0_1[0]'h).toNat : Int) = bt x0_1 0 := bt_at x0_1 0
           clear p6
           have qi6 : (0 < (x0_1.size : Int)) = True := eq_true (of_decide_eq_true (by first | (with_reducible assumption) | assumption))
           replace q6 := eq_true q6
           have p9 : 0 ≤ (0 : Int) := (by omega)
           have q9 : 0 < x0_1.size := (by have : (0 : Int) < (x0_1.size : Int) := of_decide_eq_true (by first | (with_reducible assumption) | assumption); omega)
           have hx9 : ∀ h : 0 < x0_1.size, ((x0_1[0]'h).toNat : Int) = bt x0_1 0 := bt_at x0_1 0
           clear p9
           have qi9 : (0 < (x0_1.size : Int)) = True := eq_true (of_decide_eq_true (by first | (with_reducible assumption) | assumption))
           replace q9 := eq_true q9
           have p13 : 0 ≤ (0 : Int) := (by omega)
           have q13 : 0 < x0_1.size := (by have : (0 : Int) < (x0_1.size : Int) := of_decide_eq_true (by first | (with_reducible assumption) | assumption); omega)
           have hx13 : ∀ h : 0 < x0_1.size, ((x0_1[0]'h).toNat : Int) = bt x0_1 0 := bt_at x0_1 0
           clear p13
           have qi13 : (0 < (x0_1.size : Int)) = True := eq_true (of_decide_eq_true (by first | (with_reducible assumption) | assumption))
           replace q13 := eq_true q13
           go_wp2
           go_roundg k1
           case measure => have := HK1.out; omega
           case rel => exact ⟨(x0_1.extract 1 x0_1.size), (by first | with_reducible rfl | (simp only [pps, Nat.reduceAdd, Int.toNat_natCast]; done) | rfl | (simp; done) | (simp [*]; done)), H', ⟨by have := HK1.out; omega⟩, by repeat (first | exact Drawn0.refl _ | apply Drawn0.step)⟩
          ·
           rw [if_neg c15] at H
           exact absurd H (by simp)
         ·
          rw [if_neg c14] at H
          have c14b0 : ((bt x0_1 0) == 10) = false := beq_eq_false_iff_ne.mpr c14
          have c14b1 : ((bt x0_1 0) != 10) = true := bne_iff_ne.mpr c14
          by_cases c17 : (bt x0_1 0) = 13
          ·
           rw [if_pos c17] at H
           have c17b0 : ((bt x0_1 0) == 13) = true := beq_iff_eq.mpr c17
           have c17b1 : ((bt x0_1 0) != 13) = false := bne_eq_false_iff_eq.mpr c17
           clear c17
           by_cases c18 : 1 ≤ (x0_1.size : Int)
           ·
            rw [if_pos c18] at H
            have c18b0 := eq_true c18
            have c18b1 : decide (1 ≤ (x0_1.size : Int)) = true := decide_eq_true c18
            clear c18
            have H' := Aside0.mk H
            clear H
            have p6 : 0 ≤ (0 : Int) := (by omega)
            have q6 : 0 < x0_1.size := (by have : (0 : Int) < (x0_1.size : Int) := of_decide_eq_true (by first | (with_reducible assumption) | assumption); omega)
            have hx6 : ∀ h : 0 < x0_1.size, ((x0_1[0]'h).toNat : Int) = bt x0_1 0 := bt_at x0_1 0
            clear p6
            have qi6 : (0 < (x0_1.size : Int)) = True := eq_true (of_decide_eq_true (by first | (with_reducible assumption) | assumption))
            replace q6 := eq_true q6
            have p9 : 0 ≤ (0 : Int) := (by omega)
            have q9 : 0 < x0_1.size := (by have : (0 : Int) < (x0_1.size : Int) := of_decide_eq_true (by first | (with_reducible assumption) | assumption); omega)
            have hx9 : ∀ h : 0 < x0_1.size, ((x0_1[0]'h).toNat : Int) = bt x0_1 0 := bt_at x0_1 0
            clear p9
            have qi9 : (0 < (x0_1.size : Int)) = True := eq_true (of_decide_eq_true (by first | (with_reducible assumption) | assumption))
            replace q9 := eq_true q9
            have p13 : 0 ≤ (0 : Int) := (by omega)
            have q13 : 0 < x0_1.size := (by have : (0 : Int) < (x0_1.size : Int) := of_decide_eq_true (by first | (with_reducible assumption) | assumption); omega)
            have hx13 : ∀ h : 0 < x0_1.size, ((x0_1[0]'h).toNat : Int) = bt x0_1 0 := bt_at x0_1 0
            clear p13
            have qi13 : (0 < (x0_1.size : Int)) = True := eq_true (of_decide_eq_true (by first | (with_reducible assumption) | assumption))
            replace q13 := eq_true q13
            have p16 : 0 ≤ (0 : Int) := (by omega)
            have q16 : 0 < x0_1.size := (by have : (0 : Int) < (x0_1.size : Int) := of_decide_eq_true (by first | (with_reducible assumption) | assumption); omega)
            have hx16 : ∀ h : 0 < x0_1.size, ((x0_1[0]'h).toNat : Int) = bt x0_1 0 := bt_at x0_1 0
            clear p16
            have qi16 : (0 < (x0_1.size : Int)) = True := eq_true (of_decide_eq_true (by first | (with_reducible assumption) | assumption))
            replace q16 := eq_true q16
            go_wp2
            go_roundg k1
            case measure => have := HK1.out; omega
            case rel => exact ⟨(x0_1.extract 1 x0_1.size), (by first | with_reducible rfl | (simp only [pps, Nat.reduceAdd, Int.toNat_natCast]; done) | rfl | (simp; done) | (simp [*]; done)), H', ⟨by have := HK1.out; omega⟩, by repeat (first | exact Drawn0.refl _ | apply Drawn0.step)⟩
           ·
            rw [if_neg c18] at H
            exact absurd H (by simp)
          ·
           rw [if_neg c17] at H
           have c17b0 : ((bt x0_1 0) == 13) = false := beq_eq_false_iff_ne.mpr c17
           have c17b1 : ((bt x0_1 0) != 13) = true := bne_iff_ne.mpr c17
           have H' := Aside0.mk H
           clear H
           have p6 : 0 ≤ (0 : Int) := (by omega)
           have q6 : 0 < x0_1.size := (by have : (0 : Int) < (x0_1.size : Int) := of_decide_eq_true (by first | (with_reducible assumption) | assumption); omega)
           have hx6 : ∀ h : 0 < x0_1.size, ((x0_1[0]'h).toNat : Int) = bt x0_1 0 := bt_at x0_1 0
           clear p6
           have qi6 : (0 < (x0_1.size : Int)) = True := eq_true (of_decide_eq_true (by first | (with_reducible assumption) | assumption))
           replace q6 := eq_true q6
           have p9 : 0 ≤ (0 : Int) := (by omega)
           have q9 : 0 < x0_1.size := (by have : (0 : Int) < (x0_1.size : Int) := of_decide_eq_true (by first | (with_reducible assumption) | assumption); omega)
           have hx9 : ∀ h : 0 < x0_1.size, ((x0_1[0]'h).toNat : Int) = bt x0_1 0 := bt_at x0_1 0
           clear p9
           have qi9 : (0 < (x0_1.size : Int)) = True := eq_true (of_decide_eq_true (by first | (with_reducible assumption) | assumption))
           replace q9 := eq_true q9
           have p13 : 0 ≤ (0 : Int) := (by omega)
           have q13 : 0 < x0_1.size := (by have : (0 : Int) < (x0_1.size : Int) := of_decide_eq_true (by first | (with_reducible assumption) | assumption); omega)
           have hx13 : ∀ h : 0 < x0_1.size, ((x0_1[0]'h).toNat : Int) = bt x0_1 0 := bt_at x0_1 0
           clear p13
           have qi13 : (0 < (x0_1.size : Int)) = True := eq_true (of_decide_eq_true (by first | (with_reducible assumption) | assumption))
           replace q13 := eq_true q13
           have p16 : 0 ≤ (0 : Int) := (by omega)
           have q16 : 0 < x0_1.size := (by have : (0 : Int) < (x0_1.size : Int) := of_decide_eq_true (by first | (with_reducible assumption) | assumption); omega)
           have hx16 : ∀ h : 0 < x0_1.size, ((x0_1[0]'h).toNat : Int) = bt x0_1 0 := bt_at x0_1 0
           clear p16
           have qi16 : (0 < (x0_1.size : Int)) = True := eq_true (of_decide_eq_true (by first | (with_reducible assumption) | assumption))
           replace q16 := eq_true q16
           go_wp2
           go_meet
           case rel => exact ⟨_, (x0_1), (by first | with_reducible rfl | (simp only [pps, Nat.reduceAdd, Int.toNat_natCast]; done) | rfl | (simp; done) | (simp [*]; done)), H', ⟨by have := HK1.out; first | omega | exact Nat.le_refl _⟩, by repeat (first | exact Drawn0.refl _ | apply Drawn0.step)⟩
        ·
         replace c12 := Bool.eq_false_iff.mpr c12
         subst c12
         have H1 : (haversackref10_Trim.j1 k1 x0_1 false) = some r := by rw [if_neg (show ¬ (false = true) by decide)] at H; exact H
         clear H
         have H := H1
         clear H1
         have H' := Aside0.mk H
         clear H
         have p6 : 0 ≤ (0 : Int) := (by omega)
         have q6 : 0 < x0_1.size := (by have : (0 : Int) < (x0_1.size : Int) := of_decide_eq_true (by first | (with_reducible assumption) | assumption); omega)
         have hx6 : ∀ h : 0 < x0_1.size, ((x0_1[0]'h).toNat : Int) = bt x0_1 0 := bt_at x0_1 0
         clear p6
         have qi6 : (0 < (x0_1.size : Int)) = True := eq_true (of_decide_eq_true (by first | (with_reducible assumption) | assumption))
         replace q6 := eq_true q6
         have p9 : 0 ≤ (0 : Int) := (by omega)
         have q9 : 0 < x0_1.size := (by have : (0 : Int) < (x0_1.size : Int) := of_decide_eq_true (by first | (with_reducible assumption) | assumption); omega)
         have hx9 : ∀ h : 0 < x0_1.size, ((x0_1[0]'h).toNat : Int) = bt x0_1 0 := bt_at x0_1 0
         clear p9
         have qi9 : (0 < (x0_1.size : Int)) = True := eq_true (of_decide_eq_true (by first | (with_reducible assumption) | assumption))
         replace q9 := eq_true q9
         go_wp2
         go_meet
         case rel => exact ⟨_, (x0_1), (by first | with_reducible rfl | (simp only [pps, Nat.reduceAdd, Int.toNat_natCast]; done) | rfl | (simp; done) | (simp [*]; done)), H', ⟨by have := HK1.out; first | omega | exact Nat.le_refl _⟩, by repeat (first | exact Drawn0.refl _ | apply Drawn0.step)⟩
     ·
      rw [if_neg c5] at H
      exact absurd H (by simp)
    ·
     rw [if_neg c4] at H
     have c4b0 : decide (0 < (x0_1.size : Int)) = false := decide_eq_false c4
     have c4b1 : decide (0 < x0_1.size) = false := decide_eq_false (by omega)
     clear c4
     (first | rw [c4b0] | (simp only [i64_w, i32_w]; rw [c4b0]) | skip)
     have H' := Aside0.mk H
     clear H
     go_wp2
     go_meet
     case rel => exact ⟨_, (x0_1), (by first | with_reducible rfl | (simp only [pps, Nat.reduceAdd, Int.toNat_natCast]; done) | rfl | (simp; done) | (simp [*]; done)), H', ⟨by have := HK1.out; first | omega | exact Nat.le_refl _⟩, by repeat (first | exact Drawn0.refl _ | apply Drawn0.step)⟩
 case rest =>
  clear HC3
  try clear c1
  try clear p1
  try clear q1
  try clear hx1
  try clear qi1
  try clear p2
  try clear c4
  try clear c4b0
  try clear c4b1
  try clear c5
  try clear c5b0
  try clear c5b1
  try clear p6
  try clear q6
  try clear hx6
  try clear qi6
  try clear c7
  try clear c7b0
  try clear c7b1
  try clear c8
  try clear c8b0
  try clear c8b1
  try clear p9
  try clear q9
  try clear hx9
  try clear qi9
  try clear c10
  try clear c10b0
  try clear c10b1
  try clear c11
  try clear c11b0
  try clear c11b1
  try clear c12
  try clear p13
  try clear q13
  try clear hx13
  try clear qi13
  try clear c14
  try clear c14b0
  try clear c14b1
  try clear c15
  try clear c15b0
  try clear c15b1
  try clear p16
  try clear q16
  try clear hx16
  try clear qi16
  try clear c17
  try clear c17b0
  try clear c17b1
  try clear c18
  try clear c18b0
  try clear c18b1
  try clear p13
  try clear p16
  try clear p2
  try clear p6
  try clear p9
  try clear q13
  try clear q16
  try clear q6
  try clear q9
  obtain ⟨kq, x0_2, rfl, HA, HJ2, ⟨mc2, rfl⟩⟩ := hcut
  cases kq with
  | zero => exact absurd HA.out (by simp [haversackref10_Trim.j1])
  | succ kj2 =>
   have H := HA.out
   clear HA
   simp only [haversackref10_Trim.j1] at H
   have H' := Aside0.mk H
   clear H
   go_wp2
   go_loopg [0] kj2 (fun kq v0 w' => ∃ (x0_2 : ByteArray), v0 = .string x0_2 ∧ Aside0 (haversackref10_Trim.l1 kq x0_2 a1 = some r) ∧ Aside0 (kq ≤ kj2) ∧ Drawn0 w w')
   case atStart => exact ⟨(x0_2), (by first | with_reducible rfl | (simp only [pps, Nat.reduceAdd, Int.toNat_natCast]; done) | rfl | (simp; done) | (simp [*]; done)), H', ⟨Nat.le_refl _⟩, by repeat (first | exact Drawn0.refl _ | apply Drawn0.step)⟩
   case round =>
    clear H'
    try clear c1
    try clear p1
    try clear q1
    try clear hx1
    try clear qi1
    try clear c2
    try clear p2
    try clear c4
    try clear c4b0
    try clear c4b1
    try clear c5
    try clear c5b0
    try clear c5b1
    try clear p6
    try clear q6
    try clear hx6
    try clear qi6
    try clear c7
    try clear c7b0
    try clear c7b1
    try clear c8
    try clear c8b0
    try clear c8b1
    try clear p9
    try clear q9
    try clear hx9
    try clear qi9
    try clear c10
    try clear c10b0
    try clear c10b1
    try clear c11
    try clear c11b0
    try clear c11b1
    try clear c12
    try clear p13
    try clear q13
    try clear hx13
    try clear qi13
    try clear c14
    try clear c14b0
    try clear c14b1
    try clear c15
    try clear c15b0
    try clear c15b1
    try clear p16
    try clear q16
    try clear hx16
    try clear qi16
    try clear c17
    try clear c17b0
    try clear c17b1
    try clear c18
    try clear c18b0
    try clear c18b1
    try clear p1
    try clear p13
    try clear p16
    try clear p2
    try clear p6
    try clear p9
    try clear q1
    try clear q13
    try clear q16
    try clear q6
    try clear q9
    obtain ⟨x0_2, rfl, HA, HK2, ⟨m2, rfl⟩⟩ := hrel
    cases gk with
    | zero => exact absurd HA.out (by simp [haversackref10_Trim.l1])
    | succ k2 =>
     have H := HA.out
     clear HA
     simp only [haversackref10_Trim.l1] at H
     by_cases c19 : (x0_2.size : Int) > 0
     ·
      rw [if_pos c19] at H
      have c19b0 : decide (0 < (x0_2.size : Int)) = true := decide_eq_true c19
      have c19b1 : decide (0 < x0_2.size) = true := decide_eq_true (by omega)
      clear c19
      obtain ⟨ji20, hji20⟩ : ∃ j_ : Int, (wrap64 ((x0_2.size : Int) - 1)) = j_ := ⟨_, rfl⟩
      replace H : (if 0 ≤ (ji20) then (if (ji20) < (x0_2.size : Int) then (if (bt x0_2 (ji20)) = 32 then (if (ji20) ≤ (x0_2.size : Int) then (haversackref10_Trim.l1 k2 (x0_2.extract 0 ((ji20) : Int).toNat) a1) else (none)) else (if (bt x0_2 (ji20)) = 9 then (if (ji20) ≤ (x0_2.size : Int) then (haversackref10_Trim.l1 k2 (x0_2.extract 0 ((ji20) : Int).toNat) a1) else (none)) else (if a1 = true then (if (bt x0_2 (ji20)) = 10 then (if (ji20) ≤ (x0_2.size : Int) then (haversackref10_Trim.l1 k2 (x0_2.extract 0 ((ji20) : Int).toNat) a1) else (none)) else (if (bt x0_2 (ji20)) = 13 then (if (ji20) ≤ (x0_2.size : Int) then (haversackref10_Trim.l1 k2 (x0_2.extract 0 ((ji20) : Int).toNat) a1) else (none)) else (some x0_2))) else (some x0_2)))) else (none)) else (none)) = some r := by first | (rw [hji20] at H; exact H) | (simp only [hji20] at H ⊢; exact H)
      have hji20w : (IntKind.i64.wrap ((x0_2.size : Int) - 1)) = ji20 := (i64_w _).trans hji20
      by_cases c21 : 0 ≤ (ji20)
      ·
       rw [if_pos c21] at H
       have c21b0 : decide (0 ≤ (ji20)) = true := decide_eq_true c21
       clear c21
       by_cases c22 : (ji20) < (x0_2.size : Int)
       ·
        rw [if_pos c22] at H
        have c22b0 : decide ((ji20) < (x0_2.size : Int)) = true := decide_eq_true c22
        clear c22
        by_cases c24 : (bt x0_2 (ji20)) = 32
        ·
         rw [if_pos c24] at H
         have c24b0 : ((bt x0_2 (ji20)) == 32) = true := beq_iff_eq.mpr c24
         have c24b1 : ((bt x0_2 (ji20)) != 32) = false := bne_eq_false_iff_eq.mpr c24
         clear c24
         have c25b0 := eq_true (of_decide_eq_true (by first | (with_reducible assumption) | assumption) : 0 ≤ (ji20))
         by_cases c26 : (ji20) ≤ (x0_2.size : Int)
         ·
          rw [if_pos c26] at H
          have c26b0 := eq_true c26
          have c26b1 : decide ((ji20) ≤ (x0_2.size : Int)) = true := decide_eq_true c26
          clear c26
          have H' := Aside0.mk H
          clear H
          have p23 : 0 ≤ ((ji20) : Int) := of_decide_eq_true (by first | (with_reducible assumption) | assumption)
          have q23 : (ji20) < (x0_2.size : Int) := of_decide_eq_true (by first | (with_reducible assumption) | assumption)
          have hx23 := bt_at x0_2 (ji20)
          replace p23 := eq_true p23
          replace q23 := eq_true q23
          go_wp2
          go_roundg k2
          case measure => have := HJ2.out; have := HK2.out; omega
          case rel => exact ⟨(x0_2.extract 0 ((ji20) : Int).toNat), (by first | with_reducible rfl | (simp only [pps, Nat.reduceAdd, Int.toNat_natCast]; done) | rfl | (simp; done) | (simp only [← hji20] <;> (first | rfl | simp)) | (simp [*]; done)), H', ⟨by have := HJ2.out; have := HK2.out; omega⟩, by repeat (first | exact Drawn0.refl _ | apply Drawn0.step)⟩
         ·
          rw [if_neg c26] at H
          exact absurd H (by simp)
        ·
         rw [if_neg c24] at H
         have c24b0 : ((bt x0_2 (ji20)) == 32) = false := beq_eq_false_iff_ne.mpr c24
         have c24b1 : ((bt x0_2 (ji20)) != 32) = true := bne_iff_ne.mpr c24
         by_cases c27 : (bt x0_2 (ji20)) = 9
         ·
          rw [if_pos c27] at H
          have c27b0 : ((bt x0_2 (ji20)) == 9) = true := beq_iff_eq.mpr c27
          have c27b1 : ((bt x0_2 (ji20)) != 9) = false := bne_eq_false_iff_eq.mpr c27
          clear c27
          have c28b0 := eq_true (of_decide_eq_true (by first | (with_reducible assumption) | assumption) : 0 ≤ (ji20))
          by_cases c29 : (ji20) ≤ (x0_2.size : Int)
          ·
           rw [if_pos c29] at H
           have c29b0 := eq_true c29
           have c29b1 : decide ((ji20) ≤ (x0_2.size : Int)) = true := decide_eq_true c29
           clear c29
           have H' := Aside0.mk H
           clear H
           have p23 : 0 ≤ ((ji20) : Int) := of_decide_eq_true (by first | (with_reducible assumption) | assumption)
           have q23 : (ji20) < (x0_2.size : Int) := of_decide_eq_true (by first | (with_reducible assumption) | assumption)
           have hx23 := bt_at x0_2 (ji20)
           replace p23 := eq_true p23
           replace q23 := eq_true q23
           go_wp2
           go_roundg k2
           case measure => have := HJ2.out; have := HK2.out; omega
           case rel => exact ⟨(x0_2.extract 0 ((ji20) : Int).toNat), (by first | with_reducible rfl | (simp only [pps, Nat.reduceAdd, Int.toNat_natCast]; done) | rfl | (simp; done) | (simp only [← hji20] <;> (first | rfl | simp)) | (simp [*]; done)), H', ⟨by have := HJ2.out; have := HK2.out; omega⟩, by repeat (first | exact Drawn0.refl _ | apply Drawn0.step)⟩
          ·
           rw [if_neg c29] at H
           exact absurd H (by simp)
         ·
          rw [if_neg c27] at H
          have c27b0 : ((bt x0_2 (ji20)) == 9) = false := beq_eq_false_iff_ne.mpr c27
          have c27b1 : ((bt x0_2 (ji20)) != 9) = true := bne_iff_ne.mpr c27
          by_cases c30 : a1 = true
          ·
           subst c30
           have H1 : (if (bt x0_2 (ji20)) = 10 then (if (ji20) ≤ (x0_2.size : Int) then (haversackref10_Trim.l1 k2 (x0_2.extract 0 ((ji20) : Int).toNat) true) else (none)) else (if (bt x0_2 (ji20)) = 13 then (if (ji20) ≤ (x0_2.size : Int) then (haversackref10_Trim.l1 k2 (x0_2.extract 0 ((ji20) : Int).toNat) true) else (none)) else (some x0_2))) = some r := by rw [if_pos rfl] at H; exact H
           clear H
           have H := H1
           clear H1
           by_cases c31 : (bt x0_2 (ji20)) = 10
           ·
            rw [if_pos c31] at H
            have c31b0 : ((bt x0_2 (ji20)) == 10) = true := beq_iff_eq.mpr c31
            have c31b1 : ((bt x0_2 (ji20)) != 10) = false := bne_eq_false_iff_eq.mpr c31
            clear c31
            have c32b0 := eq_true (of_decide_eq_true (by first | (with_reducible assumption) | assumption) : 0 ≤ (ji20))
            by_cases c33 : (ji20) ≤ (x0_2.size : Int)
            ·
             rw [if_pos c33] at H
             have c33b0 := eq_true c33
             have c33b1 : decide ((ji20) ≤ (x0_2.size : Int)) = true := decide_eq_true c33
             clear c33
             have H' := Aside0.mk H
             clear H
             have p23 : 0 ≤ ((ji20) : Int) := of_decide_eq_true (by first | (with_reducible assumption) | assumption)
             have q23 : (ji20) < (x0_2.size : Int) := of_decide_eq_true (by first | (with_reducible assumption) | assumption)
             have hx23 := bt_at x0_2 (ji20)
             replace p23 := eq_true p23
             replace q23 := eq_true q23
             go_wp2
             go_roundg k2
             case measure => have := HJ2.out; have := HK2.out; omega
             case rel => exact ⟨(x0_2.extract 0 ((ji20) : Int).toNat), (by first | with_reducible rfl | (simp only [pps, Nat.reduceAdd, Int.toNat_natCast]; done) | rfl | (simp; done) | (simp only [← hji20] <;> (first | rfl | simp)) | (simp [*]; done)), H', ⟨by have := HJ2.out; have := HK2.out; omega⟩, by repeat (first | exact Drawn0.refl _ | apply Drawn0.step)⟩
            ·
             rw [if_neg c33] at H
             exact absurd H (by simp)
           ·
            rw [if_neg c31] at H
            have c31b0 : ((bt x0_2 (ji20)) == 10) = false := beq_eq_false_iff_ne.mpr c31
            have c31b1 : ((bt x0_2 (ji20)) != 10) = true := bne_iff_ne.mpr c31
            by_cases c34 : (bt x0_2 (ji20)) = 13
            ·
             rw [if_pos c34] at H
             have c34b0 : ((bt x0_2 (ji20)) == 13) = true := beq_iff_eq.mpr c34
             have c34b1 : ((bt x0_2 (ji20)) != 13) = false := bne_eq_false_iff_eq.mpr c34
             clear c34
             have c35b0 := eq_true (of_decide_eq_true (by first | (with_reducible assumption) | assumption) : 0 ≤ (ji20))
             by_cases c36 : (ji20) ≤ (x0_2.size : Int)
             ·
              rw [if_pos c36] at H
              have c36b0 := eq_true c36
              have c36b1 : decide ((ji20) ≤ (x0_2.size : Int)) = true := decide_eq_true c36
              clear c36
              have H' := Aside0.mk H
              clear H
              have p23 : 0 ≤ ((ji20) : Int) := of_decide_eq_true (by first | (with_reducible assumption) | assumption)
              have q23 : (ji20) < (x0_2.size : Int) := of_decide_eq_true (by first | (with_reducible assumption) | assumption)
              have hx23 := bt_at x0_2 (ji20)
              replace p23 := eq_true p23
              replace q23 := eq_true q23
              go_wp2
              go_roundg k2
              case measure => have := HJ2.out; have := HK2.out; omega
              case rel => exact ⟨(x0_2.extract 0 ((ji20) : Int).toNat), (by first | with_reducible rfl | (simp only [pps, Nat.reduceAdd, Int.toNat_natCast]; done) | rfl | (simp; done) | (simp only [← hji20] <;> (first | rfl | simp)) | (simp [*]; done)), H', ⟨by have := HJ2.out; have := HK2.out; omega⟩, by repeat (first | exact Drawn0.refl _ | apply Drawn0.step)⟩
             ·
              rw [if_neg c36] at H
              exact absurd H (by simp)
            ·
             rw [if_neg c34] at H
             have c34b0 : ((bt x0_2 (ji20)) == 13) = false := beq_eq_false_iff_ne.mpr c34
             have c34b1 : ((bt x0_2 (ji20)) != 13) = true := bne_iff_ne.mpr c34
             obtain rfl := Option.some.inj H
             have p23 : 0 ≤ ((ji20) : Int) := of_decide_eq_true (by first | (with_reducible assumption) | assumption)
             have q23 : (ji20) < (x0_2.size : Int) := of_decide_eq_true (by first | (with_reducible assumption) | assumption)
             have hx23 := bt_at x0_2 (ji20)
             replace p23 := eq_true p23
             replace q23 := eq_true q23
             go_wp2
             go_ret
             exact ⟨by first | with_reducible rfl | (simp only [pps, Nat.reduceAdd, Int.toNat_natCast]; done) | rfl | (simp; done) | (simp only [← hji20] <;> (first | rfl | simp)) | (simp [*]; done), by repeat (first | exact Drawn0.refl _ | apply Drawn0.step)⟩
          ·
           replace c30 := Bool.eq_false_iff.mpr c30
           subst c30
           have H1 : (some x0_2) = some r := by rw [if_neg (show ¬ (false = true) by decide)] at H; exact H
           clear H
           have H := H1
           clear H1
           obtain rfl := Option.some.inj H
           have p23 : 0 ≤ ((ji20) : Int) := of_decide_eq_true (by first | (with_reducible assumption) | assumption)
           have q23 : (ji20) < (x0_2.size : Int) := of_decide_eq_true (by first | (with_reducible assumption) | assumption)
           have hx23 := bt_at x0_2 (ji20)
           replace p23 := eq_true p23
           replace q23 := eq_true q23
           go_wp2
           go_ret
           exact ⟨by first | with_reducible rfl | (simp only [pps, Nat.reduceAdd, Int.toNat_natCast]; done) | rfl | (simp; done) | (simp only [← hji20] <;> (first | rfl | simp)) | (simp [*]; done), by repeat (first | exact Drawn0.refl _ | apply Drawn0.step)⟩
       ·
        rw [if_neg c22] at H
        exact absurd H (by simp)
      ·
       rw [if_neg c21] at H
       exact absurd H (by simp)
     ·
      rw [if_neg c19] at H
      have c19b0 : decide (0 < (x0_2.size : Int)) = false := decide_eq_false c19
      have c19b1 : decide (0 < x0_2.size) = false := decide_eq_false (by omega)
      clear c19
      obtain rfl := Option.some.inj H
      go_wp2
      go_ret
      exact ⟨by first | with_reducible rfl | (simp only [pps, Nat.reduceAdd, Int.toNat_natCast]; done) | rfl | (simp; done) | (simp [*]; done), by repeat (first | exact Drawn0.refl _ | apply Drawn0.step)⟩
end Go.Proofs.YtkngjdhggcaonaaDoor.PP
