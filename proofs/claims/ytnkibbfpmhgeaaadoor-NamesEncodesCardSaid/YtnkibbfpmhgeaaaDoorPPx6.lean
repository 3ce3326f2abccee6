-- PRINTED by print.py (a twelfth state) out of the translation. Not trusted: Lean checks it.
import Derived.Test.YtnkibbfpmhgeaaaDoorPPx0
namespace Go.Proofs.YtnkibbfpmhgeaaaDoor.PP
open Go.RowKit Go.Proofs.YtnkibbfpmhgeaaaDoorW.PrintWords Go.Proofs.YtnkibbfpmhgeaaaDoorW.PrintLast Go.Proofs.YtnkibbfpmhgeaaaDoorW.PrintMore
attribute [local go_sem] max2_int min2_int max_two min_two max_three min_three max_four min_four   -- for this text's walks alone
open Go.Proofs.YtnkibbfpmhgeaaaDoor.My
set_option linter.unusedVariables false
set_option linter.unusedSimpArgs false

/-! ### names_Norm: function 24 -/
mutual
def names_Norm.j0 : Nat → ByteArray → Bool → Option (ByteArray)
 | 0, _, _ => none
 | k + 1, x0, x17 => if x17 = true then (some x0) else (names_Norm.l0 k x0 0)
def names_Norm.l0 : Nat → ByteArray → Int → Option (ByteArray)
 | 0, _, _ => none
 | k + 1, x0, x19 => if x19 < 5 then (if 0 ≤ x19 then (if x19 < (x0.size : Int) then (if (bt x0 x19) ≥ 97 then (names_Norm.j2 k x0 x19 (bt x0 x19) x19 (decide ((bt x0 x19) ≤ 122))) else (names_Norm.j2 k x0 x19 (bt x0 x19) x19 false)) else (none)) else (none)) else (if 5 ≤ (x0.size : Int) then (if 5 + (x0.size - 5) ≤ 9223372036854775807 then (some ((⟨#[73, 78, 66, 79, 88]⟩ : ByteArray) ++ (x0.extract 5 x0.size))) else (none)) else (none))
def names_Norm.j2 : Nat → ByteArray → Int → Int → Int → Bool → Option (ByteArray)
 | 0, _, _, _, _, _ => none
 | k + 1, x0, x3, x4, x19, x30 => if x30 = true then (if 0 ≤ x3 then (if x3 < 5 then (if ((x4 - 32) % 256) = (bt (⟨#[73, 78, 66, 79, 88]⟩ : ByteArray) x3) then (names_Norm.l0 k x0 (wrap64 (x19 + 1))) else (some x0)) else (none)) else (none)) else (if 0 ≤ x3 then (if x3 < 5 then (if x4 = (bt (⟨#[73, 78, 66, 79, 88]⟩ : ByteArray) x3) then (names_Norm.l0 k x0 (wrap64 (x19 + 1))) else (some x0)) else (none)) else (none))
end
def names_Norm.f (k : Nat) (a0 : ByteArray) : Option (ByteArray) := if (a0.size : Int) < 5 then (names_Norm.j0 k a0 true) else (if (a0.size : Int) > 5 then (if 5 < (a0.size : Int) then (names_Norm.j0 k a0 ((bt a0 5) != 47)) else (none)) else (names_Norm.j0 k a0 false))
theorem names_Norm.mono_l : ∀ k, (∀ y0 y1, LeO (names_Norm.j0 k y0 y1) (names_Norm.j0 (k + 1) y0 y1)) ∧ (∀ y0 y1, LeO (names_Norm.l0 k y0 y1) (names_Norm.l0 (k + 1) y0 y1)) ∧ (∀ y0 y1 y2 y3 y4, LeO (names_Norm.j2 k y0 y1 y2 y3 y4) (names_Norm.j2 (k + 1) y0 y1 y2 y3 y4))
 | 0 => ⟨fun _ _ r h => by simp [names_Norm.j0] at h, fun _ _ r h => by simp [names_Norm.l0] at h, fun _ _ _ _ _ r h => by simp [names_Norm.j2] at h⟩
 | k + 1 => by
  obtain ⟨ih0, ih1, ih2⟩ := names_Norm.mono_l k
  refine ⟨?_, ?_, ?_⟩
  ·
   intro y0 y1
   unfold names_Norm.j0
   repeat' first
   | (with_reducible exact ih0 _ _)
   | (with_reducible exact ih1 _ _)
   | (with_reducible exact ih2 _ _ _ _ _)
   | (with_reducible exact LeO.refl _)
   | (with_reducible exact LeO.none _)
   | (with_reducible refine LeO.ite ?_ ?_)
   | (with_reducible refine LeO.bind ?_ (fun _ => ?_))
   | exact ih0 _ _
   | exact ih1 _ _
   | exact ih2 _ _ _ _ _
   | exact LeO.none _
   | refine LeO.ite ?_ ?_
   | refine LeO.bind ?_ (fun _ => ?_)
  ·
   intro y0 y1
   unfold names_Norm.l0
   repeat' first
   | (with_reducible exact ih0 _ _)
   | (with_reducible exact ih1 _ _)
   | (with_reducible exact ih2 _ _ _ _ _)
   | (with_reducible exact LeO.refl _)
   | (with_reducible exact LeO.none _)
   | (with_reducible refine LeO.ite ?_ ?_)
   | (with_reducible refine LeO.bind ?_ (fun _ => ?_))
   | exact ih0 _ _
   | exact ih1 _ _
   | exact ih2 _ _ _ _ _
   | exact LeO.none _
   | refine LeO.ite ?_ ?_
   | refine LeO.bind ?_ (fun _ => ?_)
  ·
   intro y0 y1 y2 y3 y4
   unfold names_Norm.j2
   repeat' first
   | (with_reducible exact ih0 _ _)
   | (with_reducible exact ih1 _ _)
   | (with_reducible exact ih2 _ _ _ _ _)
   | (with_reducible exact LeO.refl _)
   | (with_reducible exact LeO.none _)
   | (with_reducible refine LeO.ite ?_ ?_)
   | (with_reducible refine LeO.bind ?_ (fun _ => ?_))
   | exact ih0 _ _
   | exact ih1 _ _
   | exact ih2 _ _ _ _ _
   | exact LeO.none _
   | refine LeO.ite ?_ ?_
   | refine LeO.bind ?_ (fun _ => ?_)
theorem names_Norm.mono : ∀ a0 k, LeO (names_Norm.f k a0) (names_Norm.f (k + 1) a0) := by
 intro a0 k
 obtain ⟨ih0, ih1, ih2⟩ := names_Norm.mono_l k
 unfold names_Norm.f
 repeat' first
   | (with_reducible exact ih0 _ _)
   | (with_reducible exact ih1 _ _)
   | (with_reducible exact ih2 _ _ _ _ _)
   | (with_reducible exact LeO.refl _)
   | (with_reducible exact LeO.none _)
   | (with_reducible refine LeO.ite ?_ ?_)
   | (with_reducible refine LeO.bind ?_ (fun _ => ?_))
   | exact ih0 _ _
   | exact ih1 _ _
   | exact ih2 _ _ _ _ _
   | exact LeO.none _
   | refine LeO.ite ?_ ?_
   | refine LeO.bind ?_ (fun _ => ?_)
set_option maxHeartbeats 8000000 in
set_option maxRecDepth 100000 in
theorem names_Norm.calls (k : Nat) (a0 : ByteArray) (r : ByteArray) (w : World) (h : names_Norm.f k a0 = some r) :
  Calls Tryd.prog 24 #[.string a0] w fun e w' => e = .returned (.string r) ∧ Drawn0 w w' := by
 have H : (if (a0.size : Int) < 5 then (names_Norm.j0 k a0 true) else (if (a0.size : Int) > 5 then (if 5 < (a0.size : Int) then (names_Norm.j0 k a0 ((bt a0 5) != 47)) else (none)) else (names_Norm.j0 k a0 false))) = some r := h
 clear h
 have HC2 := Aside0.mk H
 clear H
 go_enter Tryd.func24, Tryd.ntmps24
 go_upto_region 1 with (fail)
 go_cut [17] (fun v17 wc => ∃ (kq : Nat) (x17_1 : Bool), v17 = .bool x17_1 ∧ Aside0 (names_Norm.j0 kq a0 x17_1 = some r) ∧ Aside0 (kq ≤ k) ∧ Drawn0 w wc)
 case first =>
  have H := HC2.out
  clear HC2
  by_cases c3 : (a0.size : Int) < 5
  ·
   rw [if_pos c3] at H
   have c3b0 : decide ((a0.size : Int) < 5) = true := decide_eq_true c3
   have c3b1 : decide (a0.size < 5) = true := decide_eq_true (by omega)
   clear c3
   (first | rw [c3b0] | (simp only [i64_w, i32_w]; rw [c3b0]) | skip)
   have H' := Aside0.mk H
   clear H
   go_wp2
   go_meet
   case rel => exact ⟨_, (true), (by first | with_reducible rfl | (simp only [pps, Nat.reduceAdd, Int.toNat_natCast]; done) | rfl | (simp; done) | (simp [*]; done)), H', ⟨by first | omega | exact Nat.le_refl _⟩, by repeat (first | exact Drawn0.refl _ | apply Drawn0.step)⟩
  ·
   rw [if_neg c3] at H
   have c3b0 : decide ((a0.size : Int) < 5) = false := decide_eq_false c3
   have c3b1 : decide (a0.size < 5) = false := decide_eq_false (by omega)
   clear c3
   (first | rw [c3b0] | (simp only [i64_w, i32_w]; rw [c3b0]) | skip)
   by_cases c4 : (a0.size : Int) > 5
   ·
    rw [if_pos c4] at H
    have c4b0 : decide (5 < (a0.size : Int)) = true := decide_eq_true c4
    have c4b1 : decide (5 < a0.size) = true := decide_eq_true (by omega)
    clear c4
    by_cases c5 : 5 < (a0.size : Int)
    ·
     rw [if_pos c5] at H
     have c5b0 : decide (5 < (a0.size : Int)) = true := decide_eq_true c5
     have c5b1 : decide (5 < a0.size) = true := decide_eq_true (by omega)
     clear c5
     have H' := Aside0.mk H
     clear H
     have p6 : 0 ≤ (5 : Int) := (by omega)
     have q6 : 5 < a0.size := (by have : (5 : Int) < (a0.size : Int) := of_decide_eq_true (by first | (with_reducible assumption) | assumption); omega)
     have hx6 : ∀ h : 5 < a0.size, ((a0[5]'h).toNat : Int) = bt a0 5 := bt_at a0 5
     clear p6
     have qi6 : (5 < (a0.size : Int)) = True := eq_true (of_decide_eq_true (by first | (with_reducible assumption) | assumption))
     replace q6 := eq_true q6
     go_wp2
     go_meet
     case rel => exact ⟨_, (((bt a0 5) != 47)), (by first | with_reducible rfl | (simp only [pps, Nat.reduceAdd, Int.toNat_natCast]; done) | rfl | (simp; done) | (simp [*]; done)), H', ⟨by first | omega | exact Nat.le_refl _⟩, by repeat (first | exact Drawn0.refl _ | apply Drawn0.step)⟩
    ·
     rw [if_neg c5] at H
     exact absurd H (by simp)
   ·
    rw [if_neg c4] at H
    have c4b0 : decide (5 < (a0.size : Int)) = false := decide_eq_false c4
    have c4b1 : decide (5 < a0.size) = false := decide_eq_false (by omega)
    clear c4
    have H' := Aside0.mk H
    clear H
    go_wp2
    go_meet
    case rel => exact ⟨_, (false), (by first | with_reducible rfl | (simp only [pps, Nat.reduceAdd, Int.toNat_natCast]; done) | rfl | (simp; done) | (simp [*]; done)), H', ⟨by first | omega | exact Nat.le_refl _⟩, by repeat (first | exact Drawn0.refl _ | apply Drawn0.step)⟩
 case rest =>
  clear HC2
  try clear c2
  try clear p2
  try clear c3
  try clear c3b0
  try clear c3b1
  try clear c4
  try clear c4b0
  try clear c4b1
  try clear c5
  try clear c5b0
  try clear c5b1
  try clear p6
  try clear q6
  try clear hx6
  try clear qi6
  try clear p6
  try clear q6
  obtain ⟨kq, x17_1, rfl, HA, HJ1, ⟨mc1, rfl⟩⟩ := hcut
  cases kq with
  | zero => exact absurd HA.out (by simp [names_Norm.j0])
  | succ kj1 =>
   have H := HA.out
   clear HA
   simp only [names_Norm.j0] at H
   by_cases c7 : x17_1 = true
   ·
    subst c7
    have H1 : (some a0) = some r := by rw [if_pos rfl] at H; exact H
    clear H
    have H := H1
    clear H1
    obtain rfl := Option.some.inj H
    go_wp2
    go_ret
    exact ⟨by first | with_reducible rfl | (simp only [pps, Nat.reduceAdd, Int.toNat_natCast]; done) | rfl | (simp; done) | (simp [*]; done), by repeat (first | exact Drawn0.refl _ | apply Drawn0.step)⟩
   ·
    replace c7 := Bool.eq_false_iff.mpr c7
    subst c7
    have H1 : (names_Norm.l0 kj1 a0 0) = some r := by rw [if_neg (show ¬ (false = true) by decide)] at H; exact H
    clear H
    have H := H1
    clear H1
    have H' := Aside0.mk H
    clear H
    go_wp2
    go_loopg [19] kj1 (fun kq v19 w' => ∃ (x19_2 : Int), v19 = .int .i64 x19_2 ∧ Aside0 (names_Norm.l0 kq a0 x19_2 = some r) ∧ Aside0 (kq ≤ kj1) ∧ Drawn0 w w')
    case atStart => exact ⟨(0), (by first | with_reducible rfl | (simp only [pps, Nat.reduceAdd, Int.toNat_natCast]; done) | rfl | (simp; done) | (simp [*]; done)), H', ⟨Nat.le_refl _⟩, by repeat (first | exact Drawn0.refl _ | apply Drawn0.step)⟩
    case round =>
     clear H'
     try clear c1
     try clear c2
     try clear p2
     try clear c3
     try clear c3b0
     try clear c3b1
     try clear c4
     try clear c4b0
     try clear c4b1
     try clear c5
     try clear c5b0
     try clear c5b1
     try clear p6
     try clear q6
     try clear hx6
     try clear qi6
     try clear c7
     try clear p2
     try clear p6
     try clear q6
     obtain ⟨x19_2, rfl, HA, HK2, ⟨m2, rfl⟩⟩ := hrel
     cases gk with
     | zero => exact absurd HA.out (by simp [names_Norm.l0])
     | succ k2 =>
      have H := HA.out
      clear HA
      simp only [names_Norm.l0] at H
      by_cases c8 : x19_2 < 5
      ·
       rw [if_pos c8] at H
       have c8b0 : decide (x19_2 < 5) = true := decide_eq_true c8
       clear c8
       by_cases c9 : 0 ≤ x19_2
       ·
        rw [if_pos c9] at H
        have c9b0 : decide (0 ≤ x19_2) = true := decide_eq_true c9
        clear c9
        by_cases c10 : x19_2 < (a0.size : Int)
        ·
         rw [if_pos c10] at H
         have c10b0 : decide (x19_2 < (a0.size : Int)) = true := decide_eq_true c10
         clear c10
         have HC12 := Aside0.mk H
         clear H
         have p11 : 0 ≤ (x19_2 : Int) := of_decide_eq_true (by first | (with_reducible assumption) | assumption)
         have q11 : x19_2 < (a0.size : Int) := of_decide_eq_true (by first | (with_reducible assumption) | assumption)
         have hx11 := bt_at a0 x19_2
         replace p11 := eq_true p11
         replace q11 := eq_true q11
         go_upto_region 7 with (fail)
         go_cut [30] (fun v30 wc => ∃ (kq : Nat) (x30_11 : Bool), v30 = .bool x30_11 ∧ Aside0 (names_Norm.j2 kq a0 x19_2 (bt a0 x19_2) x19_2 x30_11 = some r) ∧ Aside0 (kq ≤ k2) ∧ Drawn0 w wc)
         case first =>
          have H := HC12.out
          clear HC12
          by_cases c13 : (bt a0 x19_2) ≥ 97
          ·
           rw [if_pos c13] at H
           have c13b0 : decide (97 ≤ (bt a0 x19_2)) = true := decide_eq_true c13
           clear c13
           (first | rw [c13b0] | (simp only [i64_w, i32_w]; rw [c13b0]) | skip)
           have H' := Aside0.mk H
           clear H
           go_wp2
           go_meet
           case rel => exact ⟨_, (decide ((bt a0 x19_2) ≤ 122)), (by first | with_reducible rfl | (simp only [pps, Nat.reduceAdd, Int.toNat_natCast]; done) | rfl | (simp; done) | (simp [*]; done)), H', ⟨by have := HJ1.out; have := HK2.out; first | omega | exact Nat.le_refl _⟩, by repeat (first | exact Drawn0.refl _ | apply Drawn0.step)⟩
          ·
           rw [if_neg c13] at H
           have c13b0 : decide (97 ≤ (bt a0 x19_2)) = false := decide_eq_false c13
           clear c13
           (first | rw [c13b0] | (simp only [i64_w, i32_w]; rw [c13b0]) | skip)
           have H' := Aside0.mk H
           clear H
           go_wp2
           go_meet
           case rel => exact ⟨_, (false), (by first | with_reducible rfl | (simp only [pps, Nat.reduceAdd, Int.toNat_natCast]; done) | rfl | (simp; done) | (simp [*]; done)), H', ⟨by have := HJ1.out; have := HK2.out; first | omega | exact Nat.le_refl _⟩, by repeat (first | exact Drawn0.refl _ | apply Drawn0.step)⟩
         case rest =>
          clear HC12
          try clear c1
          try clear p1
          try clear q1
          try clear hx1
          try clear c2
          try clear p2
          try clear c3
          try clear c3b0
          try clear c3b1
          try clear c4
          try clear c4b0
          try clear c4b1
          try clear c5
          try clear c5b0
          try clear c5b1
          try clear p6
          try clear q6
          try clear hx6
          try clear qi6
          try clear c7
          try clear c8
          try clear c8b0
          try clear c9
          try clear c9b0
          try clear c10
          try clear c10b0
          try clear p11
          try clear q11
          try clear hx11
          try clear c13
          try clear c13b0
          try clear p11
          try clear p2
          try clear p6
          try clear q11
          try clear q6
          obtain ⟨kq, x30_11, rfl, HA, HJ11, ⟨mc11, rfl⟩⟩ := hcut
          cases kq with
          | zero => exact absurd HA.out (by simp [names_Norm.j2])
          | succ kj11 =>
           have H := HA.out
           clear HA
           simp only [names_Norm.j2] at H
           by_cases c14 : x30_11 = true
           ·
            subst c14
            have H1 : (if 0 ≤ x19_2 then (if x19_2 < 5 then (if (((bt a0 x19_2) - 32) % 256) = (bt (⟨#[73, 78, 66, 79, 88]⟩ : ByteArray) x19_2) then (names_Norm.l0 kj11 a0 (wrap64 (x19_2 + 1))) else (some a0)) else (none)) else (none)) = some r := by rw [if_pos rfl] at H; exact H
            clear H
            have H := H1
            clear H1
            by_cases c15 : 0 ≤ x19_2
            ·
             rw [if_pos c15] at H
             have c15b0 : decide (0 ≤ x19_2) = true := decide_eq_true c15
             clear c15
             by_cases c16 : x19_2 < 5
             ·
              rw [if_pos c16] at H
              have c16b0 : decide (x19_2 < 5) = true := decide_eq_true c16
              clear c16
              by_cases c18 : (((bt a0 x19_2) - 32) % 256) = (bt (⟨#[73, 78, 66, 79, 88]⟩ : ByteArray) x19_2)
              ·
               rw [if_pos c18] at H
               have c18b0 : ((((bt a0 x19_2) - 32) % 256) == (bt (⟨#[73, 78, 66, 79, 88]⟩ : ByteArray) x19_2)) = true := beq_iff_eq.mpr c18
               have c18b1 : ((((bt a0 x19_2) - 32) % 256) != (bt (⟨#[73, 78, 66, 79, 88]⟩ : ByteArray) x19_2)) = false := bne_eq_false_iff_eq.mpr c18
               clear c18
               have H' := Aside0.mk H
               clear H
               have p17 : 0 ≤ (x19_2 : Int) := of_decide_eq_true (by first | (with_reducible assumption) | assumption)
               have q17 : x19_2 < (5 : Int) := of_decide_eq_true (by first | (with_reducible assumption) | assumption)
               have hx17 := bt_at (⟨#[73, 78, 66, 79, 88]⟩ : ByteArray) x19_2
               replace p17 := eq_true p17
               replace q17 := eq_true q17
               go_wp2
               go_roundg kj11
               case measure => have := HJ1.out; have := HK2.out; have := HJ11.out; omega
               case rel => exact ⟨(wrap64 (x19_2 + 1)), (by first | with_reducible rfl | (simp only [pps, Nat.reduceAdd, Int.toNat_natCast]; done) | rfl | (simp; done) | (simp [*]; done)), H', ⟨by have := HJ1.out; have := HK2.out; have := HJ11.out; omega⟩, by repeat (first | exact Drawn0.refl _ | apply Drawn0.step)⟩
              ·
               rw [if_neg c18] at H
               have c18b0 : ((((bt a0 x19_2) - 32) % 256) == (bt (⟨#[73, 78, 66, 79, 88]⟩ : ByteArray) x19_2)) = false := beq_eq_false_iff_ne.mpr c18
               have c18b1 : ((((bt a0 x19_2) - 32) % 256) != (bt (⟨#[73, 78, 66, 79, 88]⟩ : ByteArray) x19_2)) = true := bne_iff_ne.mpr c18
               obtain rfl := Option.some.inj H
               have p17 : 0 ≤ (x19_2 : Int) := of_decide_eq_true (by first | (with_reducible assumption) | assumption)
               have q17 : x19_2 < (5 : Int) := of_decide_eq_true (by first | (with_reducible assumption) | assumption)
               have hx17 := bt_at (⟨#[73, 78, 66, 79, 88]⟩ : ByteArray) x19_2
               replace p17 := eq_true p17
               replace q17 := eq_true q17
               go_wp2
               go_ret
               exact ⟨by first | with_reducible rfl | (simp only [pps, Nat.reduceAdd, Int.toNat_natCast]; done) | rfl | (simp; done) | (simp [*]; done), by repeat (first | exact Drawn0.refl _ | apply Drawn0.step)⟩
             ·
              rw [if_neg c16] at H
              exact absurd H (by simp)
            ·
             rw [if_neg c15] at H
             exact absurd H (by simp)
           ·
            replace c14 := Bool.eq_false_iff.mpr c14
            subst c14
            have H1 : (if 0 ≤ x19_2 then (if x19_2 < 5 then (if (bt a0 x19_2) = (bt (⟨#[73, 78, 66, 79, 88]⟩ : ByteArray) x19_2) then (names_Norm.l0 kj11 a0 (wrap64 (x19_2 + 1))) else (some a0)) else (none)) else (none)) = some r := by rw [if_neg (show ¬ (false = true) by decide)] at H; exact H
            clear H
            have H := H1
            clear H1
            by_cases c19 : 0 ≤ x19_2
            ·
             rw [if_pos c19] at H
             have c19b0 : decide (0 ≤ x19_2) = true := decide_eq_true c19
             clear c19
             by_cases c20 : x19_2 < 5
             ·
              rw [if_pos c20] at H
              have c20b0 : decide (x19_2 < 5) = true := decide_eq_true c20
              clear c20
              by_cases c22 : (bt a0 x19_2) = (bt (⟨#[73, 78, 66, 79, 88]⟩ : ByteArray) x19_2)
              ·
               rw [if_pos c22] at H
               have c22b0 : ((bt a0 x19_2) == (bt (⟨#[73, 78, 66, 79, 88]⟩ : ByteArray) x19_2)) = true := beq_iff_eq.mpr c22
               have c22b1 : ((bt a0 x19_2) != (bt (⟨#[73, 78, 66, 79, 88]⟩ : ByteArray) x19_2)) = false := bne_eq_false_iff_eq.mpr c22
               clear c22
               have H' := Aside0.mk H
               clear H
               have p21 : 0 ≤ (x19_2 : Int) := of_decide_eq_true (by first | (with_reducible assumption) | assumption)
               have q21 : x19_2 < (5 : Int) := of_decide_eq_true (by first | (with_reducible assumption) | assumption)
               have hx21 := bt_at (⟨#[73, 78, 66, 79, 88]⟩ : ByteArray) x19_2
               replace p21 := eq_true p21
               replace q21 := eq_true q21
               go_wp2
               go_roundg kj11
               case measure => have := HJ1.out; have := HK2.out; have := HJ11.out; omega
               case rel => exact ⟨(wrap64 (x19_2 + 1)), (by first | with_reducible rfl | (simp only [pps, Nat.reduceAdd, Int.toNat_natCast]; done) | rfl | (simp; done) | (simp [*]; done)), H', ⟨by have := HJ1.out; have := HK2.out; have := HJ11.out; omega⟩, by repeat (first | exact Drawn0.refl _ | apply Drawn0.step)⟩
              ·
               rw [if_neg c22] at H
               have c22b0 : ((bt a0 x19_2) == (bt (⟨#[73, 78, 66, 79, 88]⟩ : ByteArray) x19_2)) = false := beq_eq_false_iff_ne.mpr c22
               have c22b1 : ((bt a0 x19_2) != (bt (⟨#[73, 78, 66, 79, 88]⟩ : ByteArray) x19_2)) = true := bne_iff_ne.mpr c22
               obtain rfl := Option.some.inj H
               have p21 : 0 ≤ (x19_2 : Int) := of_decide_eq_true (by first | (with_reducible assumption) | assumption)
               have q21 : x19_2 < (5 : Int) := of_decide_eq_true (by first | (with_reducible assumption) | assumption)
               have hx21 := bt_at (⟨#[73, 78, 66, 79, 88]⟩ : ByteArray) x19_2
               replace p21 := eq_true p21
               replace q21 := eq_true q21
               go_wp2
               go_ret
               exact ⟨by first | with_reducible rfl | (simp only [pps, Nat.reduceAdd, Int.toNat_natCast]; done) | rfl | (simp; done) | (simp [*]; done), by repeat (first | exact Drawn0.refl _ | apply Drawn0.step)⟩
             ·
              rw [if_neg c20] at H
              exact absurd H (by simp)
            ·
             rw [if_neg c19] at H
             exact absurd H (by simp)
        ·
         rw [if_neg c10] at H
         exact absurd H (by simp)
       ·
        rw [if_neg c9] at H
        exact absurd H (by simp)
      ·
       rw [if_neg c8] at H
       have c8b0 : decide (x19_2 < 5) = false := decide_eq_false c8
       clear c8
       by_cases c23 : 5 ≤ (a0.size : Int)
       ·
        rw [if_pos c23] at H
        have c23b0 := eq_true c23
        have c23b1 : decide (5 ≤ (a0.size : Int)) = true := decide_eq_true c23
        clear c23
        by_cases c24 : 5 + (a0.size - 5) ≤ 9223372036854775807
        ·
         rw [if_pos c24] at H
         have c24b0 := eq_true c24
         have c24b1 : decide (5 + (a0.size - 5) ≤ 9223372036854775807) = true := decide_eq_true c24
         try have c24b2 : (9223372036854775807 < 5 + (a0.size - 5)) = False := eq_false (Nat.not_lt.2 c24)
         obtain rfl := Option.some.inj H
         go_wp2
         go_ret
         exact ⟨by first | with_reducible rfl | (simp only [pps, Nat.reduceAdd, Int.toNat_natCast]; done) | rfl | (simp; done) | (simp [*]; done), by repeat (first | exact Drawn0.refl _ | apply Drawn0.step)⟩
        ·
         rw [if_neg c24] at H
         exact absurd H (by simp)
       ·
        rw [if_neg c23] at H
        exact absurd H (by simp)

end Go.Proofs.YtnkibbfpmhgeaaaDoor.PP
