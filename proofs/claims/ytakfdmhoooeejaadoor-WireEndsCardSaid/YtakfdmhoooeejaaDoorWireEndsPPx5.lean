/- YtakfdmhoooeejaaDoorPPx5, as far as WireEnds needs it (prune.py). -/
import Derived.Test.YtakfdmhoooeejaaDoorWireEndsPPx0
namespace Go.Proofs.YtakfdmhoooeejaaDoor.PP
open Go.RowKit Go.Proofs.YtakfdmhoooeejaaDoorW.PrintWords Go.Proofs.YtakfdmhoooeejaaDoorW.PrintLast Go.Proofs.YtakfdmhoooeejaaDoorW.PrintMore
attribute [local go_sem] max2_int min2_int max_two min_two max_three min_three max_four min_four   -- for this text's walks alone
open Go.Proofs.YtakfdmhoooeejaaDoor.My
set_option linter.unusedVariables false
set_option linter.unusedSimpArgs false
mutual
def haversackref13_Mark.j0 : Nat → ByteArray → Int → Bool → Option (Int × Int × Bool)
 | 0, _, _, _ => none
 | k + 1, x0, x5, x20 => if x20 = true then (some ((-1), 0, false)) else (if x5 > 0 then (if 0 ≤ (wrap64 (x5 - 1)) then (if (wrap64 (x5 - 1)) < (x0.size : Int) then (haversackref13_Mark.j1 k x0 x5 ((bt x0 (wrap64 (x5 - 1))) == 43)) else (none)) else (none)) else (haversackref13_Mark.j1 k x0 x5 false))
def haversackref13_Mark.j1 : Nat → ByteArray → Int → Bool → Option (Int × Int × Bool)
 | 0, _, _, _ => none
 | k + 1, x0, x5, x6 => if x6 = true then (haversackref13_Mark.j2 k x0 (wrap64 (x5 - 1)) x6) else (haversackref13_Mark.j2 k x0 x5 x6)
def haversackref13_Mark.j2 : Nat → ByteArray → Int → Bool → Option (Int × Int × Bool)
 | 0, _, _, _ => none
 | k + 1, x0, x5, x6 => haversackref13_Mark.l0 k x0 x5 x6 x5
def haversackref13_Mark.j4 : Nat → ByteArray → Int → Bool → Int → Option (Int × Int × Bool)
 | 0, _, _, _, _ => none
 | k + 1, x0, x5, x6, x7 => if x7 = x5 then (haversackref13_Mark.j5 k x0 x5 x6 x7 true) else (if (wrap64 (x5 - x7)) > 6 then (haversackref13_Mark.j5 k x0 x5 x6 x7 true) else (if x7 = 0 then (haversackref13_Mark.j5 k x0 x5 x6 x7 true) else (if 0 ≤ (wrap64 (x7 - 1)) then (if (wrap64 (x7 - 1)) < (x0.size : Int) then (haversackref13_Mark.j5 k x0 x5 x6 x7 ((bt x0 (wrap64 (x7 - 1))) != 123)) else (none)) else (none))))
def haversackref13_Mark.j5 : Nat → ByteArray → Int → Bool → Int → Bool → Option (Int × Int × Bool)
 | 0, _, _, _, _, _ => none
 | k + 1, x0, x5, x6, x7, x71 => if x71 = true then (some ((-1), 0, false)) else (haversackref13_Mark.l1 k x0 x5 x6 x7 0 x7)
def haversackref13_Mark.l1 : Nat → ByteArray → Int → Bool → Int → Int → Int → Option (Int × Int × Bool)
 | 0, _, _, _, _, _, _ => none
 | k + 1, x0, x5, x6, x7, x8, x9 => if x9 < x5 then (if 0 ≤ x9 then (if x9 < (x0.size : Int) then (haversackref13_Mark.l1 k x0 x5 x6 x7 (wrap64 ((wrap64 ((wrap64 (10 * x8)) + (wrap64 (bt x0 x9)))) - 48)) (wrap64 (x9 + 1))) else (none)) else (none)) else (some (wrap64 (x7 - 1), x8, x6))
def haversackref13_Mark.l0 : Nat → ByteArray → Int → Bool → Int → Option (Int × Int × Bool)
 | 0, _, _, _, _ => none
 | k + 1, x0, x5, x6, x7 => if x7 > 0 then (if 0 ≤ (wrap64 (x7 - 1)) then (if (wrap64 (x7 - 1)) < (x0.size : Int) then (if (bt x0 (wrap64 (x7 - 1))) ≥ 48 then (if (bt x0 (wrap64 (x7 - 1))) ≤ 57 then (haversackref13_Mark.l0 k x0 x5 x6 (wrap64 (x7 - 1))) else (haversackref13_Mark.j4 k x0 x5 x6 x7)) else (haversackref13_Mark.j4 k x0 x5 x6 x7)) else (none)) else (none)) else (haversackref13_Mark.j4 k x0 x5 x6 x7)
end
def haversackref13_Mark.f (k : Nat) (a0 : ByteArray) : Option (Int × Int × Bool) := if (wrap64 ((a0.size : Int) - 1)) < 0 then (haversackref13_Mark.j0 k a0 (wrap64 ((a0.size : Int) - 1)) true) else (if 0 ≤ (wrap64 ((a0.size : Int) - 1)) then (if (wrap64 ((a0.size : Int) - 1)) < (a0.size : Int) then (haversackref13_Mark.j0 k a0 (wrap64 ((a0.size : Int) - 1)) ((bt a0 (wrap64 ((a0.size : Int) - 1))) != 125)) else (none)) else (none))
set_option maxHeartbeats 8000000 in
set_option maxRecDepth 100000 in
theorem haversackref13_Mark.calls (k : Nat) (a0 : ByteArray) (r1 : Int) (r2 : Int) (r3 : Bool) (w : World) (h : haversackref13_Mark.f k a0 = some (r1, r2, r3)) :
  Calls Tryd.prog 20 #[.string a0] w fun e w' => e = .returned (.tuple #[.int .i64 r1, .int .i64 r2, .bool r3]) ∧ Drawn0 w w' := by
 have H : (if (wrap64 ((a0.size : Int) - 1)) < 0 then (haversackref13_Mark.j0 k a0 (wrap64 ((a0.size : Int) - 1)) true) else (if 0 ≤ (wrap64 ((a0.size : Int) - 1)) then (if (wrap64 ((a0.size : Int) - 1)) < (a0.size : Int) then (haversackref13_Mark.j0 k a0 (wrap64 ((a0.size : Int) - 1)) ((bt a0 (wrap64 ((a0.size : Int) - 1))) != 125)) else (none)) else (none))) = some (r1, r2, r3) := h
 clear h
 have HC2 := Aside0.mk H
 clear H
 go_enter Tryd.func20, Tryd.ntmps20
 go_upto_region 2 with (fail)
 go_cut [20] (fun v20 wc => ∃ (kq : Nat) (x20_1 : Bool), v20 = .bool x20_1 ∧ Aside0 (haversackref13_Mark.j0 kq a0 (wrap64 ((a0.size : Int) - 1)) x20_1 = some (r1, r2, r3)) ∧ Aside0 (kq ≤ k) ∧ Drawn0 w wc)
 case first =>
  have H := HC2.out
  clear HC2
  by_cases c3 : (wrap64 ((a0.size : Int) - 1)) < 0
  ·
   rw [if_pos c3] at H
   have c3b0 : decide ((wrap64 ((a0.size : Int) - 1)) < 0) = true := decide_eq_true c3
   clear c3
   (first | rw [c3b0] | (simp only [i64_w, i32_w]; rw [c3b0]) | skip)
   have H' := Aside0.mk H
   clear H
   go_wp2
   go_meet
   case rel => exact ⟨_, (true), (by first | with_reducible rfl | (simp only [pps, Nat.reduceAdd, Int.toNat_natCast]; done) | rfl | (simp; done) | (simp [*]; done)), H', ⟨by first | omega | exact Nat.le_refl _⟩, by repeat (first | exact Drawn0.refl _ | apply Drawn0.step)⟩
  ·
   rw [if_neg c3] at H
   have c3b0 : decide ((wrap64 ((a0.size : Int) - 1)) < 0) = false := decide_eq_false c3
   clear c3
   (first | rw [c3b0] | (simp only [i64_w, i32_w]; rw [c3b0]) | skip)
   obtain ⟨ji4, hji4⟩ : ∃ j_ : Int, (wrap64 ((a0.size : Int) - 1)) = j_ := ⟨_, rfl⟩
   replace H : (if 0 ≤ (ji4) then (if (ji4) < (a0.size : Int) then (haversackref13_Mark.j0 k a0 ji4 ((bt a0 (ji4)) != 125)) else (none)) else (none)) = some (r1, r2, r3) := by first | (rw [hji4] at H; exact H) | (simp only [hji4] at H ⊢; exact H)
   (try rw [hji4] at c3b0)
   have hji4w : (IntKind.i64.wrap ((a0.size : Int) - 1)) = ji4 := (i64_w _).trans hji4
   by_cases c5 : 0 ≤ (ji4)
   ·
    rw [if_pos c5] at H
    have c5b0 : decide (0 ≤ (ji4)) = true := decide_eq_true c5
    clear c5
    by_cases c6 : (ji4) < (a0.size : Int)
    ·
     rw [if_pos c6] at H
     have c6b0 : decide ((ji4) < (a0.size : Int)) = true := decide_eq_true c6
     clear c6
     have H' := Aside0.mk H
     clear H
     have p7 : 0 ≤ ((ji4) : Int) := of_decide_eq_true (by first | (with_reducible assumption) | assumption)
     have q7 : (ji4) < (a0.size : Int) := of_decide_eq_true (by first | (with_reducible assumption) | assumption)
     have hx7 := bt_at a0 (ji4)
     replace p7 := eq_true p7
     replace q7 := eq_true q7
     go_wp2
     go_meet
     case rel => exact ⟨_, (((bt a0 (ji4)) != 125)), (by first | with_reducible rfl | (simp only [pps, Nat.reduceAdd, Int.toNat_natCast]; done) | rfl | (simp; done) | (simp only [← hji4] <;> (first | rfl | simp)) | (simp [*]; done)), ⟨by rw [hji4]; exact H'.out⟩, ⟨by first | omega | exact Nat.le_refl _⟩, by repeat (first | exact Drawn0.refl _ | apply Drawn0.step)⟩
    ·
     rw [if_neg c6] at H
     exact absurd H (by simp)
   ·
    rw [if_neg c5] at H
    exact absurd H (by simp)
 case rest =>
  clear HC2
  try clear c2
  try clear p2
  try clear c3
  try clear c3b0
  try clear c5
  try clear c5b0
  try clear c6
  try clear c6b0
  try clear p6
  try clear p7
  try clear q7
  try clear hx7
  try clear p7
  try clear q7
  obtain ⟨kq, x20_1, rfl, HA, HJ1, ⟨mc1, rfl⟩⟩ := hcut
  cases kq with
  | zero => exact absurd HA.out (by simp [haversackref13_Mark.j0])
  | succ kj1 =>
   have H := HA.out
   clear HA
   simp only [haversackref13_Mark.j0] at H
   by_cases c8 : x20_1 = true
   ·
    subst c8
    have H1 : (some ((-1), 0, false)) = some (r1, r2, r3) := by rw [if_pos rfl] at H; exact H
    clear H
    have H := H1
    clear H1
    simp only [Option.some.injEq, Prod.mk.injEq] at H
    obtain ⟨rfl, rfl, rfl⟩ := H
    go_wp2
    go_ret3
    exact ⟨by first | with_reducible rfl | (simp only [pps, Nat.reduceAdd, Int.toNat_natCast]; done) | rfl | (simp; done) | (simp [*]; done), by repeat (first | exact Drawn0.refl _ | apply Drawn0.step)⟩
   ·
    replace c8 := Bool.eq_false_iff.mpr c8
    subst c8
    have H1 : (if (wrap64 ((a0.size : Int) - 1)) > 0 then (if 0 ≤ (wrap64 ((wrap64 ((a0.size : Int) - 1)) - 1)) then (if (wrap64 ((wrap64 ((a0.size : Int) - 1)) - 1)) < (a0.size : Int) then (haversackref13_Mark.j1 kj1 a0 (wrap64 ((a0.size : Int) - 1)) ((bt a0 (wrap64 ((wrap64 ((a0.size : Int) - 1)) - 1))) == 43)) else (none)) else (none)) else (haversackref13_Mark.j1 kj1 a0 (wrap64 ((a0.size : Int) - 1)) false)) = some (r1, r2, r3) := by rw [if_neg (show ¬ (false = true) by decide)] at H; exact H
    clear H
    have H := H1
    clear H1
    have HC9 := Aside0.mk H
    clear H
    go_upto_region 4 with (fail)
    go_cut [6] (fun v6 wc => ∃ (kq : Nat) (x6_8 : Bool), v6 = .bool x6_8 ∧ Aside0 (haversackref13_Mark.j1 kq a0 (wrap64 ((a0.size : Int) - 1)) x6_8 = some (r1, r2, r3)) ∧ Aside0 (kq ≤ kj1) ∧ Drawn0 w wc)
    case first =>
     have H := HC9.out
     clear HC9
     by_cases c10 : (wrap64 ((a0.size : Int) - 1)) > 0
     ·
      rw [if_pos c10] at H
      have c10b0 : decide (0 < (wrap64 ((a0.size : Int) - 1))) = true := decide_eq_true c10
      clear c10
      (first | rw [c10b0] | (simp only [i64_w, i32_w]; rw [c10b0]) | skip)
      obtain ⟨ji11, hji11⟩ : ∃ j_ : Int, (wrap64 ((wrap64 ((a0.size : Int) - 1)) - 1)) = j_ := ⟨_, rfl⟩
      replace H : (if 0 ≤ (ji11) then (if (ji11) < (a0.size : Int) then (haversackref13_Mark.j1 kj1 a0 (wrap64 ((a0.size : Int) - 1)) ((bt a0 (ji11)) == 43)) else (none)) else (none)) = some (r1, r2, r3) := by first | (rw [hji11] at H; exact H) | (simp only [hji11] at H ⊢; exact H)
      have hji11w : (IntKind.i64.wrap ((wrap64 ((a0.size : Int) - 1)) - 1)) = ji11 := (i64_w _).trans hji11
      by_cases c12 : 0 ≤ (ji11)
      ·
       rw [if_pos c12] at H
       have c12b0 : decide (0 ≤ (ji11)) = true := decide_eq_true c12
       clear c12
       by_cases c13 : (ji11) < (a0.size : Int)
       ·
        rw [if_pos c13] at H
        have c13b0 : decide ((ji11) < (a0.size : Int)) = true := decide_eq_true c13
        clear c13
        have H' := Aside0.mk H
        clear H
        have p14 : 0 ≤ ((ji11) : Int) := of_decide_eq_true (by first | (with_reducible assumption) | assumption)
        have q14 : (ji11) < (a0.size : Int) := of_decide_eq_true (by first | (with_reducible assumption) | assumption)
        have hx14 := bt_at a0 (ji11)
        replace p14 := eq_true p14
        replace q14 := eq_true q14
        go_wp2
        go_meet
        case rel => exact ⟨_, (((bt a0 (ji11)) == 43)), (by first | with_reducible rfl | (simp only [pps, Nat.reduceAdd, Int.toNat_natCast]; done) | rfl | (simp; done) | (simp only [← hji11] <;> (first | rfl | simp)) | (simp [*]; done)), H', ⟨by have := HJ1.out; first | omega | exact Nat.le_refl _⟩, by repeat (first | exact Drawn0.refl _ | apply Drawn0.step)⟩
       ·
        rw [if_neg c13] at H
        exact absurd H (by simp)
      ·
       rw [if_neg c12] at H
       exact absurd H (by simp)
     ·
      rw [if_neg c10] at H
      have c10b0 : decide (0 < (wrap64 ((a0.size : Int) - 1))) = false := decide_eq_false c10
      clear c10
      (first | rw [c10b0] | (simp only [i64_w, i32_w]; rw [c10b0]) | skip)
      have H' := Aside0.mk H
      clear H
      go_wp2
      go_meet
      case rel => exact ⟨_, (false), (by first | with_reducible rfl | (simp only [pps, Nat.reduceAdd, Int.toNat_natCast]; done) | rfl | (simp; done) | (simp [*]; done)), H', ⟨by have := HJ1.out; first | omega | exact Nat.le_refl _⟩, by repeat (first | exact Drawn0.refl _ | apply Drawn0.step)⟩
    case rest =>
     clear HC9
     try clear c1
     try clear p1
     try clear q1
     try clear hx1
     try clear c2
     try clear p2
     try clear c3
     try clear c3b0
     try clear c5
     try clear c5b0
     try clear c6
     try clear c6b0
     try clear p6
     try clear p7
     try clear q7
     try clear hx7
     try clear c8
     try clear c10
     try clear c10b0
     try clear c12
     try clear c12b0
     try clear c13
     try clear c13b0
     try clear p14
     try clear q14
     try clear hx14
     try clear p14
     try clear p2
     try clear p6
     try clear p7
     try clear q14
     try clear q7
     obtain ⟨kq, x6_8, rfl, HA, HJ8, ⟨mc8, rfl⟩⟩ := hcut
     cases kq with
     | zero => exact absurd HA.out (by simp [haversackref13_Mark.j1])
     | succ kj8 =>
      have H := HA.out
      clear HA
      simp only [haversackref13_Mark.j1] at H
      have HC15 := Aside0.mk H
      clear H
      go_upto_if 30 with (fail)
      go_cut [5] (fun v5 wc => ∃ (kq : Nat) (x5_14 : Int), v5 = .int .i64 x5_14 ∧ Aside0 (haversackref13_Mark.j2 kq a0 x5_14 x6_8 = some (r1, r2, r3)) ∧ Aside0 (kq ≤ kj8) ∧ Drawn0 w wc)
      case first =>
       have H := HC15.out
       clear HC15
       by_cases c16 : x6_8 = true
       ·
        subst c16
        have H1 : (haversackref13_Mark.j2 kj8 a0 (wrap64 ((wrap64 ((a0.size : Int) - 1)) - 1)) true) = some (r1, r2, r3) := by rw [if_pos rfl] at H; exact H
        clear H
        have H := H1
        clear H1
        have H' := Aside0.mk H
        clear H
        go_wp2
        go_meet
        case rel => exact ⟨_, (wrap64 ((wrap64 ((a0.size : Int) - 1)) - 1)), (by first | with_reducible rfl | (simp only [pps, Nat.reduceAdd, Int.toNat_natCast]; done) | rfl | (simp; done) | (simp [*]; done)), H', ⟨by have := HJ1.out; have := HJ8.out; first | omega | exact Nat.le_refl _⟩, by repeat (first | exact Drawn0.refl _ | apply Drawn0.step)⟩
       ·
        replace c16 := Bool.eq_false_iff.mpr c16
        subst c16
        have H1 : (haversackref13_Mark.j2 kj8 a0 (wrap64 ((a0.size : Int) - 1)) false) = some (r1, r2, r3) := by rw [if_neg (show ¬ (false = true) by decide)] at H; exact H
        clear H
        have H := H1
        clear H1
        have H' := Aside0.mk H
        clear H
        go_wp2
        go_meet
        case rel => exact ⟨_, ((wrap64 ((a0.size : Int) - 1))), (by first | with_reducible rfl | (simp only [pps, Nat.reduceAdd, Int.toNat_natCast]; done) | rfl | (simp; done) | (simp [*]; done)), H', ⟨by have := HJ1.out; have := HJ8.out; first | omega | exact Nat.le_refl _⟩, by repeat (first | exact Drawn0.refl _ | apply Drawn0.step)⟩
      case rest =>
       clear HC15
       try clear c1
       try clear p1
       try clear q1
       try clear hx1
       try clear c2
       try clear p2
       try clear c3
       try clear c3b0
       try clear c5
       try clear c5b0
       try clear c6
       try clear c6b0
       try clear p6
       try clear p7
       try clear q7
       try clear hx7
       try clear c8
       try clear c10
       try clear c10b0
       try clear c12
       try clear c12b0
       try clear c13
       try clear c13b0
       try clear p14
       try clear q14
       try clear hx14
       try clear c16
       try clear p1
       try clear p14
       try clear p2
       try clear p6
       try clear p7
       try clear q1
       try clear q14
       try clear q7
       obtain ⟨kq, x5_14, rfl, HA, HJ14, ⟨mc14, rfl⟩⟩ := hcut
       cases kq with
       | zero => exact absurd HA.out (by simp [haversackref13_Mark.j2])
       | succ kj14 =>
        have H := HA.out
        clear HA
        simp only [haversackref13_Mark.j2] at H
        have HC17 := Aside0.mk H
        clear H
        go_upto_block 0 with (fail)
        go_cut [7] (fun v7 wc => ∃ (kq : Nat) (x7_16 : Int), v7 = .int .i64 x7_16 ∧ Aside0 (haversackref13_Mark.j4 kq a0 x5_14 x6_8 x7_16 = some (r1, r2, r3)) ∧ Aside0 (kq ≤ kj14) ∧ Drawn0 w wc)
        case first =>
         have H := HC17.out
         clear HC17
         have H' := Aside0.mk H
         clear H
         go_wp2
         go_loopg [7] kj14 (fun kq v7 w' => ∃ (x7_4 : Int), v7 = .int .i64 x7_4 ∧ Aside0 (haversackref13_Mark.l0 kq a0 x5_14 x6_8 x7_4 = some (r1, r2, r3)) ∧ Aside0 (kq ≤ kj14) ∧ Drawn0 w w')
         case atStart => exact ⟨(x5_14), (by first | with_reducible rfl | (simp only [pps, Nat.reduceAdd, Int.toNat_natCast]; done) | rfl | (simp; done) | (simp [*]; done)), H', ⟨Nat.le_refl _⟩, by repeat (first | exact Drawn0.refl _ | apply Drawn0.step)⟩
         case round =>
          clear H'
          try clear c1
          try clear p1
          try clear q1
          try clear hx1
          try clear c2
          try clear p2
          try clear c3
          try clear c3b0
          try clear c5
          try clear c5b0
          try clear c6
          try clear c6b0
          try clear p6
          try clear p7
          try clear q7
          try clear hx7
          try clear c8
          try clear c10
          try clear c10b0
          try clear c12
          try clear c12b0
          try clear c13
          try clear c13b0
          try clear c14
          try clear p14
          try clear q14
          try clear hx14
          try clear c16
          try clear p1
          try clear p14
          try clear p2
          try clear p6
          try clear p7
          try clear q1
          try clear q14
          try clear q7
          obtain ⟨x7_4, rfl, HA, HK4, ⟨m4, rfl⟩⟩ := hrel
          cases gk with
          | zero => exact absurd HA.out (by simp [haversackref13_Mark.l0])
          | succ k4 =>
           have H := HA.out
           clear HA
           simp only [haversackref13_Mark.l0] at H
           by_cases c18 : x7_4 > 0
           ·
            rw [if_pos c18] at H
            have c18b0 : decide (0 < x7_4) = true := decide_eq_true c18
            clear c18
            (first | rw [c18b0] | (simp only [i64_w, i32_w]; rw [c18b0]) | skip)
            obtain ⟨ji19, hji19⟩ : ∃ j_ : Int, (wrap64 (x7_4 - 1)) = j_ := ⟨_, rfl⟩
            replace H : (if 0 ≤ (ji19) then (if (ji19) < (a0.size : Int) then (if (bt a0 (ji19)) ≥ 48 then (if (bt a0 (ji19)) ≤ 57 then (haversackref13_Mark.l0 k4 a0 x5_14 x6_8 ji19) else (haversackref13_Mark.j4 k4 a0 x5_14 x6_8 x7_4)) else (haversackref13_Mark.j4 k4 a0 x5_14 x6_8 x7_4)) else (none)) else (none)) = some (r1, r2, r3) := by first | (rw [hji19] at H; exact H) | (simp only [hji19] at H ⊢; exact H)
            have hji19w : (IntKind.i64.wrap (x7_4 - 1)) = ji19 := (i64_w _).trans hji19
            by_cases c20 : 0 ≤ (ji19)
            ·
             rw [if_pos c20] at H
             have c20b0 : decide (0 ≤ (ji19)) = true := decide_eq_true c20
             clear c20
             by_cases c21 : (ji19) < (a0.size : Int)
             ·
              rw [if_pos c21] at H
              have c21b0 : decide ((ji19) < (a0.size : Int)) = true := decide_eq_true c21
              clear c21
              by_cases c23 : (bt a0 (ji19)) ≥ 48
              ·
               rw [if_pos c23] at H
               have c23b0 : decide (48 ≤ (bt a0 (ji19))) = true := decide_eq_true c23
               clear c23
               by_cases c25 : (bt a0 (ji19)) ≤ 57
               ·
                rw [if_pos c25] at H
                have c25b0 : decide ((bt a0 (ji19)) ≤ 57) = true := decide_eq_true c25
                clear c25
                have H' := Aside0.mk H
                clear H
                have p22 : 0 ≤ ((ji19) : Int) := of_decide_eq_true (by first | (with_reducible assumption) | assumption)
                have q22 : (ji19) < (a0.size : Int) := of_decide_eq_true (by first | (with_reducible assumption) | assumption)
                have hx22 := bt_at a0 (ji19)
                replace p22 := eq_true p22
                replace q22 := eq_true q22
                have p24 : 0 ≤ ((ji19) : Int) := of_decide_eq_true (by first | (with_reducible assumption) | assumption)
                have q24 : (ji19) < (a0.size : Int) := of_decide_eq_true (by first | (with_reducible assumption) | assumption)
                have hx24 := bt_at a0 (ji19)
                replace p24 := eq_true p24
                replace q24 := eq_true q24
                go_wp2
                go_roundg k4
                case measure => have := HJ1.out; have := HJ8.out; have := HJ14.out; have := HK4.out; omega
                case rel => exact ⟨(ji19), (by first | with_reducible rfl | (simp only [pps, Nat.reduceAdd, Int.toNat_natCast]; done) | rfl | (simp; done) | (simp only [← hji19] <;> (first | rfl | simp)) | (simp [*]; done)), H', ⟨by have := HJ1.out; have := HJ8.out; have := HJ14.out; have := HK4.out; omega⟩, by repeat (first | exact Drawn0.refl _ | apply Drawn0.step)⟩
               ·
                rw [if_neg c25] at H
                have c25b0 : decide ((bt a0 (ji19)) ≤ 57) = false := decide_eq_false c25
                clear c25
                have H' := Aside0.mk H
                clear H
                have p22 : 0 ≤ ((ji19) : Int) := of_decide_eq_true (by first | (with_reducible assumption) | assumption)
                have q22 : (ji19) < (a0.size : Int) := of_decide_eq_true (by first | (with_reducible assumption) | assumption)
                have hx22 := bt_at a0 (ji19)
                replace p22 := eq_true p22
                replace q22 := eq_true q22
                have p24 : 0 ≤ ((ji19) : Int) := of_decide_eq_true (by first | (with_reducible assumption) | assumption)
                have q24 : (ji19) < (a0.size : Int) := of_decide_eq_true (by first | (with_reducible assumption) | assumption)
                have hx24 := bt_at a0 (ji19)
                replace p24 := eq_true p24
                replace q24 := eq_true q24
                go_wp2
                go_meet
                case rel => exact ⟨_, (x7_4), (by first | with_reducible rfl | (simp only [pps, Nat.reduceAdd, Int.toNat_natCast]; done) | rfl | (simp; done) | (simp [*]; done)), H', ⟨by have := HJ1.out; have := HJ8.out; have := HJ14.out; have := HK4.out; first | omega | exact Nat.le_refl _⟩, by repeat (first | exact Drawn0.refl _ | apply Drawn0.step)⟩
              ·
               rw [if_neg c23] at H
               have c23b0 : decide (48 ≤ (bt a0 (ji19))) = false := decide_eq_false c23
               clear c23
               have H' := Aside0.mk H
               clear H
               have p22 : 0 ≤ ((ji19) : Int) := of_decide_eq_true (by first | (with_reducible assumption) | assumption)
               have q22 : (ji19) < (a0.size : Int) := of_decide_eq_true (by first | (with_reducible assumption) | assumption)
               have hx22 := bt_at a0 (ji19)
               replace p22 := eq_true p22
               replace q22 := eq_true q22
               go_wp2
               go_meet
               case rel => exact ⟨_, (x7_4), (by first | with_reducible rfl | (simp only [pps, Nat.reduceAdd, Int.toNat_natCast]; done) | rfl | (simp; done) | (simp [*]; done)), H', ⟨by have := HJ1.out; have := HJ8.out; have := HJ14.out; have := HK4.out; first | omega | exact Nat.le_refl _⟩, by repeat (first | exact Drawn0.refl _ | apply Drawn0.step)⟩
             ·
              rw [if_neg c21] at H
              exact absurd H (by simp)
            ·
             rw [if_neg c20] at H
             exact absurd H (by simp)
           ·
            rw [if_neg c18] at H
            have c18b0 : decide (0 < x7_4) = false := decide_eq_false c18
            clear c18
            (first | rw [c18b0] | (simp only [i64_w, i32_w]; rw [c18b0]) | skip)
            have H' := Aside0.mk H
            clear H
            go_wp2
            go_meet
            case rel => exact ⟨_, (x7_4), (by first | with_reducible rfl | (simp only [pps, Nat.reduceAdd, Int.toNat_natCast]; done) | rfl | (simp; done) | (simp [*]; done)), H', ⟨by have := HJ1.out; have := HJ8.out; have := HJ14.out; have := HK4.out; first | omega | exact Nat.le_refl _⟩, by repeat (first | exact Drawn0.refl _ | apply Drawn0.step)⟩
        case rest =>
         clear HC17
         try clear c1
         try clear p1
         try clear q1
         try clear hx1
         try clear c2
         try clear p2
         try clear q2
         try clear hx2
         try clear c3
         try clear c3b0
         try clear c5
         try clear c5b0
         try clear c6
         try clear c6b0
         try clear p6
         try clear p7
         try clear q7
         try clear hx7
         try clear c8
         try clear c10
         try clear c10b0
         try clear c12
         try clear c12b0
         try clear c13
         try clear c13b0
         try clear c14
         try clear p14
         try clear q14
         try clear hx14
         try clear c16
         try clear c18
         try clear c18b0
         try clear c20
         try clear c20b0
         try clear c21
         try clear c21b0
         try clear p22
         try clear q22
         try clear hx22
         try clear c23
         try clear c23b0
         try clear p24
         try clear q24
         try clear hx24
         try clear c25
         try clear c25b0
         try clear p1
         try clear p14
         try clear p2
         try clear p22
         try clear p24
         try clear p6
         try clear p7
         try clear q1
         try clear q14
         try clear q22
         try clear q24
         try clear q7
         obtain ⟨kq, x7_16, rfl, HA, HJ16, ⟨mc16, rfl⟩⟩ := hcut
         cases kq with
         | zero => exact absurd HA.out (by simp [haversackref13_Mark.j4])
         | succ kj16 =>
          have H := HA.out
          clear HA
          simp only [haversackref13_Mark.j4] at H
          have HC26 := Aside0.mk H
          clear H
          go_upto_region 10 with (fail)
          go_cut [71] (fun v71 wc => ∃ (kq : Nat) (x71_25 : Bool), v71 = .bool x71_25 ∧ Aside0 (haversackref13_Mark.j5 kq a0 x5_14 x6_8 x7_16 x71_25 = some (r1, r2, r3)) ∧ Aside0 (kq ≤ kj16) ∧ Drawn0 w wc)
          case first =>
           have H := HC26.out
           clear HC26
           by_cases c27 : x7_16 = x5_14
           ·
            rw [if_pos c27] at H
            have c27b0 : (x7_16 == x5_14) = true := beq_iff_eq.mpr c27
            have c27b1 : (x7_16 != x5_14) = false := bne_eq_false_iff_eq.mpr c27
            clear c27
            (first | rw [c27b0] | (simp only [i64_w, i32_w]; rw [c27b0]) | skip)
            have H' := Aside0.mk H
            clear H
            go_wp2
            go_meet
            case rel => exact ⟨_, (true), (by first | with_reducible rfl | (simp only [pps, Nat.reduceAdd, Int.toNat_natCast]; done) | rfl | (simp; done) | (simp [*]; done)), H', ⟨by have := HJ1.out; have := HJ8.out; have := HJ14.out; have := HJ16.out; first | omega | exact Nat.le_refl _⟩, by repeat (first | exact Drawn0.refl _ | apply Drawn0.step)⟩
           ·
            rw [if_neg c27] at H
            have c27b0 : (x7_16 == x5_14) = false := beq_eq_false_iff_ne.mpr c27
            have c27b1 : (x7_16 != x5_14) = true := bne_iff_ne.mpr c27
            (first | rw [c27b0] | (simp only [i64_w, i32_w]; rw [c27b0]) | skip)
            by_cases c28 : (wrap64 (x5_14 - x7_16)) > 6
            ·
             rw [if_pos c28] at H
             have c28b0 : decide (6 < (wrap64 (x5_14 - x7_16))) = true := decide_eq_true c28
             clear c28
             have H' := Aside0.mk H
             clear H
             go_wp2
             go_meet
             case rel => exact ⟨_, (true), (by first | with_reducible rfl | (simp only [pps, Nat.reduceAdd, Int.toNat_natCast]; done) | rfl | (simp; done) | (simp [*]; done)), H', ⟨by have := HJ1.out; have := HJ8.out; have := HJ14.out; have := HJ16.out; first | omega | exact Nat.le_refl _⟩, by repeat (first | exact Drawn0.refl _ | apply Drawn0.step)⟩
            ·
             rw [if_neg c28] at H
             have c28b0 : decide (6 < (wrap64 (x5_14 - x7_16))) = false := decide_eq_false c28
             clear c28
             by_cases c29 : x7_16 = 0
             ·
              rw [if_pos c29] at H
              have c29b0 : (x7_16 == 0) = true := beq_iff_eq.mpr c29
              have c29b1 : (x7_16 != 0) = false := bne_eq_false_iff_eq.mpr c29
              clear c29
              have H' := Aside0.mk H
              clear H
              go_wp2
              go_meet
              case rel => exact ⟨_, (true), (by first | with_reducible rfl | (simp only [pps, Nat.reduceAdd, Int.toNat_natCast]; done) | rfl | (simp; done) | (simp [*]; done)), H', ⟨by have := HJ1.out; have := HJ8.out; have := HJ14.out; have := HJ16.out; first | omega | exact Nat.le_refl _⟩, by repeat (first | exact Drawn0.refl _ | apply Drawn0.step)⟩
             ·
              rw [if_neg c29] at H
              have c29b0 : (x7_16 == 0) = false := beq_eq_false_iff_ne.mpr c29
              have c29b1 : (x7_16 != 0) = true := bne_iff_ne.mpr c29
              obtain ⟨ji30, hji30⟩ : ∃ j_ : Int, (wrap64 (x7_16 - 1)) = j_ := ⟨_, rfl⟩
              replace H : (if 0 ≤ (ji30) then (if (ji30) < (a0.size : Int) then (haversackref13_Mark.j5 kj16 a0 x5_14 x6_8 x7_16 ((bt a0 (ji30)) != 123)) else (none)) else (none)) = some (r1, r2, r3) := by first | (rw [hji30] at H; exact H) | (simp only [hji30] at H ⊢; exact H)
              have hji30w : (IntKind.i64.wrap (x7_16 - 1)) = ji30 := (i64_w _).trans hji30
              by_cases c31 : 0 ≤ (ji30)
              ·
               rw [if_pos c31] at H
               have c31b0 : decide (0 ≤ (ji30)) = true := decide_eq_true c31
               clear c31
               by_cases c32 : (ji30) < (a0.size : Int)
               ·
                rw [if_pos c32] at H
                have c32b0 : decide ((ji30) < (a0.size : Int)) = true := decide_eq_true c32
                clear c32
                have H' := Aside0.mk H
                clear H
                have p33 : 0 ≤ ((ji30) : Int) := of_decide_eq_true (by first | (with_reducible assumption) | assumption)
                have q33 : (ji30) < (a0.size : Int) := of_decide_eq_true (by first | (with_reducible assumption) | assumption)
                have hx33 := bt_at a0 (ji30)
                replace p33 := eq_true p33
                replace q33 := eq_true q33
                go_wp2
                go_meet
                case rel => exact ⟨_, (((bt a0 (ji30)) != 123)), (by first | with_reducible rfl | (simp only [pps, Nat.reduceAdd, Int.toNat_natCast]; done) | rfl | (simp; done) | (simp only [← hji30] <;> (first | rfl | simp)) | (simp [*]; done)), H', ⟨by have := HJ1.out; have := HJ8.out; have := HJ14.out; have := HJ16.out; first | omega | exact Nat.le_refl _⟩, by repeat (first | exact Drawn0.refl _ | apply Drawn0.step)⟩
               ·
                rw [if_neg c32] at H
                exact absurd H (by simp)
              ·
               rw [if_neg c31] at H
               exact absurd H (by simp)
          case rest =>
           clear HC26
           try clear c1
           try clear p1
           try clear q1
           try clear hx1
           try clear c2
           try clear p2
           try clear q2
           try clear hx2
           try clear c3
           try clear c3b0
           try clear p3
           try clear q3
           try clear hx3
           try clear c5
           try clear c5b0
           try clear c6
           try clear c6b0
           try clear p6
           try clear p7
           try clear q7
           try clear hx7
           try clear c8
           try clear c10
           try clear c10b0
           try clear c12
           try clear c12b0
           try clear c13
           try clear c13b0
           try clear c14
           try clear p14
           try clear q14
           try clear hx14
           try clear c16
           try clear c18
           try clear c18b0
           try clear c20
           try clear c20b0
           try clear c21
           try clear c21b0
           try clear p22
           try clear q22
           try clear hx22
           try clear c23
           try clear c23b0
           try clear p24
           try clear q24
           try clear hx24
           try clear c25
           try clear c25b0
           try clear c27
           try clear c27b0
           try clear c27b1
           try clear c28
           try clear c28b0
           try clear c29
           try clear c29b0
           try clear c29b1
           try clear c31
           try clear c31b0
           try clear c32
           try clear c32b0
           try clear p33
           try clear q33
           try clear hx33
           try clear p1
           try clear p14
           try clear p2
           try clear p22
           try clear p24
           try clear p33
           try clear p6
           try clear p7
           try clear q1
           try clear q14
           try clear q2
           try clear q22
           try clear q24
           try clear q33
           try clear q7
           obtain ⟨kq, x71_25, rfl, HA, HJ25, ⟨mc25, rfl⟩⟩ := hcut
           cases kq with
           | zero => exact absurd HA.out (by simp [haversackref13_Mark.j5])
           | succ kj25 =>
            have H := HA.out
            clear HA
            simp only [haversackref13_Mark.j5] at H
            by_cases c34 : x71_25 = true
            ·
             subst c34
             have H1 : (some ((-1), 0, false)) = some (r1, r2, r3) := by rw [if_pos rfl] at H; exact H
             clear H
             have H := H1
             clear H1
             simp only [Option.some.injEq, Prod.mk.injEq] at H
             obtain ⟨rfl, rfl, rfl⟩ := H
             go_wp2
             go_ret3
             exact ⟨by first | with_reducible rfl | (simp only [pps, Nat.reduceAdd, Int.toNat_natCast]; done) | rfl | (simp; done) | (simp [*]; done), by repeat (first | exact Drawn0.refl _ | apply Drawn0.step)⟩
            ·
             replace c34 := Bool.eq_false_iff.mpr c34
             subst c34
             have H1 : (haversackref13_Mark.l1 kj25 a0 x5_14 x6_8 x7_16 0 x7_16) = some (r1, r2, r3) := by rw [if_neg (show ¬ (false = true) by decide)] at H; exact H
             clear H
             have H := H1
             clear H1
             have H' := Aside0.mk H
             clear H
             go_wp2
             go_loopg [8, 9] kj25 (fun kq v8 v9 w' => ∃ (x8_6 : Int) (x9_6 : Int), v8 = .int .i64 x8_6 ∧ v9 = .int .i64 x9_6 ∧ Aside0 (haversackref13_Mark.l1 kq a0 x5_14 x6_8 x7_16 x8_6 x9_6 = some (r1, r2, r3)) ∧ Aside0 (kq ≤ kj25) ∧ Drawn0 w w')
             case atStart => exact ⟨(0), (x7_16), (by first | with_reducible rfl | (simp only [pps, Nat.reduceAdd, Int.toNat_natCast]; done) | rfl | (simp; done) | (simp [*]; done)), (by first | with_reducible rfl | (simp only [pps, Nat.reduceAdd, Int.toNat_natCast]; done) | rfl | (simp; done) | (simp [*]; done)), H', ⟨Nat.le_refl _⟩, by repeat (first | exact Drawn0.refl _ | apply Drawn0.step)⟩
             case round =>
              clear H'
              try clear c1
              try clear p1
              try clear q1
              try clear hx1
              try clear c2
              try clear p2
              try clear q2
              try clear hx2
              try clear c3
              try clear c3b0
              try clear p3
              try clear q3
              try clear hx3
              try clear c5
              try clear c5b0
              try clear c6
              try clear c6b0
              try clear p6
              try clear p7
              try clear q7
              try clear hx7
              try clear c8
              try clear c10
              try clear c10b0
              try clear c12
              try clear c12b0
              try clear c13
              try clear c13b0
              try clear c14
              try clear p14
              try clear q14
              try clear hx14
              try clear c16
              try clear c18
              try clear c18b0
              try clear c20
              try clear c20b0
              try clear c21
              try clear c21b0
              try clear p22
              try clear q22
              try clear hx22
              try clear c23
              try clear c23b0
              try clear p24
              try clear q24
              try clear hx24
              try clear c25
              try clear c25b0
              try clear c27
              try clear c27b0
              try clear c27b1
              try clear c28
              try clear c28b0
              try clear c29
              try clear c29b0
              try clear c29b1
              try clear c31
              try clear c31b0
              try clear c32
              try clear c32b0
              try clear p33
              try clear q33
              try clear hx33
              try clear c34
              try clear p1
              try clear p14
              try clear p2
              try clear p22
              try clear p24
              try clear p3
              try clear p33
              try clear p6
              try clear p7
              try clear q1
              try clear q14
              try clear q2
              try clear q22
              try clear q24
              try clear q3
              try clear q33
              try clear q7
              obtain ⟨x8_6, x9_6, rfl, rfl, HA, HK6, ⟨m6, rfl⟩⟩ := hrel
              cases gk with
              | zero => exact absurd HA.out (by simp [haversackref13_Mark.l1])
              | succ k6 =>
               have H := HA.out
               clear HA
               simp only [haversackref13_Mark.l1] at H
               by_cases c35 : x9_6 < x5_14
               ·
                rw [if_pos c35] at H
                have c35b0 : decide (x9_6 < x5_14) = true := decide_eq_true c35
                clear c35
                by_cases c36 : 0 ≤ x9_6
                ·
                 rw [if_pos c36] at H
                 have c36b0 : decide (0 ≤ x9_6) = true := decide_eq_true c36
                 clear c36
                 by_cases c37 : x9_6 < (a0.size : Int)
                 ·
                  rw [if_pos c37] at H
                  have c37b0 : decide (x9_6 < (a0.size : Int)) = true := decide_eq_true c37
                  clear c37
                  have H' := Aside0.mk H
                  clear H
                  have p38 : 0 ≤ (x9_6 : Int) := of_decide_eq_true (by first | (with_reducible assumption) | assumption)
                  have q38 : x9_6 < (a0.size : Int) := of_decide_eq_true (by first | (with_reducible assumption) | assumption)
                  have hx38 := bt_at a0 x9_6
                  replace p38 := eq_true p38
                  replace q38 := eq_true q38
                  go_wp2
                  go_roundg k6
                  case measure => have := HJ1.out; have := HJ8.out; have := HJ14.out; have := HJ16.out; have := HJ25.out; have := HK6.out; omega
                  case rel => exact ⟨(wrap64 ((wrap64 ((wrap64 (10 * x8_6)) + (wrap64 (bt a0 x9_6)))) - 48)), (wrap64 (x9_6 + 1)), (by first | with_reducible rfl | (simp only [pps, Nat.reduceAdd, Int.toNat_natCast]; done) | rfl | (simp; done) | (simp [*]; done)), (by first | with_reducible rfl | (simp only [pps, Nat.reduceAdd, Int.toNat_natCast]; done) | rfl | (simp; done) | (simp [*]; done)), H', ⟨by have := HJ1.out; have := HJ8.out; have := HJ14.out; have := HJ16.out; have := HJ25.out; have := HK6.out; omega⟩, by repeat (first | exact Drawn0.refl _ | apply Drawn0.step)⟩
                 ·
                  rw [if_neg c37] at H
                  exact absurd H (by simp)
                ·
                 rw [if_neg c36] at H
                 exact absurd H (by simp)
               ·
                rw [if_neg c35] at H
                have c35b0 : decide (x9_6 < x5_14) = false := decide_eq_false c35
                clear c35
                simp only [Option.some.injEq, Prod.mk.injEq] at H
                obtain ⟨rfl, rfl, rfl⟩ := H
                go_wp2
                go_ret3
                exact ⟨by first | with_reducible rfl | (simp only [pps, Nat.reduceAdd, Int.toNat_natCast]; done) | rfl | (simp; done) | (simp [*]; done), by repeat (first | exact Drawn0.refl _ | apply Drawn0.step)⟩
end Go.Proofs.YtakfdmhoooeejaaDoor.PP
