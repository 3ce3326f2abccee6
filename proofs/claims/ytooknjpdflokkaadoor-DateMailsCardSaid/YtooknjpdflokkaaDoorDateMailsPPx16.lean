/- YtooknjpdflokkaaDoorPPx16, as far as DateMails needs it (prune.py). -/
import Derived.Test.YtooknjpdflokkaaDoorDateMailsPPx0
import Derived.Test.YtooknjpdflokkaaDoorDateMailsPPx15
namespace Go.Proofs.YtooknjpdflokkaaDoor.PP
open Go.RowKit Go.Proofs.YtooknjpdflokkaaDoorW.PrintWords Go.Proofs.YtooknjpdflokkaaDoorW.PrintLast Go.Proofs.YtooknjpdflokkaaDoorW.PrintMore
attribute [local go_sem] max2_int min2_int max_two min_two max_three min_three max_four min_four   -- for this text's walks alone
open Go.Proofs.YtooknjpdflokkaaDoor.My
set_option linter.unusedVariables false
set_option linter.unusedSimpArgs false
mutual
def haversackref09_clock.j0 : Nat → ByteArray → Option (Int × Int × Int)
 | 0, _ => none
 | k + 1, x0 => if (x0.size : Int) = 8 then (if 2 < (x0.size : Int) then (if (bt x0 2) = 58 then (if 5 < (x0.size : Int) then (haversackref09_clock.j1 k x0 ((bt x0 5) != 58)) else (none)) else (haversackref09_clock.j1 k x0 true)) else (none)) else (haversackref09_clock.j1 k x0 true)
def haversackref09_clock.j1 : Nat → ByteArray → Bool → Option (Int × Int × Int)
 | 0, _, _ => none
 | k + 1, x0, x22 => if x22 = true then (some ((-1), 0, 0)) else (if 0 ≤ 2 then (if 2 ≤ (x0.size : Int) then ((haversackref09_Number.f k (x0.extract 0 2)).bind fun t223 => (if 3 ≤ 5 then (if 5 ≤ (x0.size : Int) then ((haversackref09_Number.f k (x0.extract 3 5)).bind fun t224 => (if 6 ≤ (x0.size : Int) then ((haversackref09_Number.f k (x0.extract 6 x0.size)).bind fun t225 => (some (t223, t224, t225))) else (none))) else (none)) else (none))) else (none)) else (none))
end
def haversackref09_clock.f (k : Nat) (a0 : ByteArray) : Option (Int × Int × Int) := if (a0.size : Int) = 5 then (if a0.size + 3 ≤ 9223372036854775807 then (haversackref09_clock.j0 k (a0 ++ (⟨#[58, 48, 48]⟩ : ByteArray))) else (none)) else (haversackref09_clock.j0 k a0)
set_option maxHeartbeats 8000000 in
set_option maxRecDepth 100000 in
theorem haversackref09_clock.calls (k : Nat) (a0 : ByteArray) (r1 : Int) (r2 : Int) (r3 : Int) (w : World) (h : haversackref09_clock.f k a0 = some (r1, r2, r3)) :
  Calls Tryd.prog 31 #[.string a0] w fun e w' => e = .returned (.tuple #[.int .i64 r1, .int .i64 r2, .int .i64 r3]) ∧ Drawn0 w w' := by
 have H : (if (a0.size : Int) = 5 then (if a0.size + 3 ≤ 9223372036854775807 then (haversackref09_clock.j0 k (a0 ++ (⟨#[58, 48, 48]⟩ : ByteArray))) else (none)) else (haversackref09_clock.j0 k a0)) = some (r1, r2, r3) := h
 clear h
 have HC2 := Aside0.mk H
 clear H
 go_enter Tryd.func31, Tryd.ntmps31
 go_upto_if 7 with (fail)
 repeat (go_quiet (fail); go_upto_if 7 with (fail))
 go_cut [0] (fun v0 wc => ∃ (kq : Nat) (x0_1 : ByteArray), v0 = .string x0_1 ∧ Aside0 (haversackref09_clock.j0 kq x0_1 = some (r1, r2, r3)) ∧ Aside0 (kq ≤ k) ∧ Drawn0 w wc)
 case first =>
  have H := HC2.out
  clear HC2
  by_cases c3 : (a0.size : Int) = 5
  ·
   rw [if_pos c3] at H
   have c3b0 : ((a0.size : Int) == 5) = true := beq_iff_eq.mpr c3
   have c3b1 : ((a0.size : Int) != 5) = false := bne_eq_false_iff_eq.mpr c3
   clear c3
   (first | rw [c3b0] | (simp only [i64_w, i32_w]; rw [c3b0]) | skip)
   by_cases c4 : a0.size + 3 ≤ 9223372036854775807
   ·
    rw [if_pos c4] at H
    have c4b0 := eq_true c4
    have c4b1 : decide (a0.size + 3 ≤ 9223372036854775807) = true := decide_eq_true c4
    try have c4b2 : (9223372036854775807 < a0.size + 3) = False := eq_false (Nat.not_lt.2 c4)
    have H' := Aside0.mk H
    clear H
    go_wp2
    repeat (go_quiet (fail); try go_wp2)
    go_meet
    case rel => exact ⟨_, (a0 ++ (⟨#[58, 48, 48]⟩ : ByteArray)), (by first | with_reducible rfl | (simp only [pps, Nat.reduceAdd]; done) | rfl | (simp; done) | (simp [*]; done)), H', ⟨by first | omega | exact Nat.le_refl _⟩, by repeat (first | exact Drawn0.refl _ | apply Drawn0.step)⟩
   ·
    rw [if_neg c4] at H
    exact absurd H (by simp)
  ·
   rw [if_neg c3] at H
   have c3b0 : ((a0.size : Int) == 5) = false := beq_eq_false_iff_ne.mpr c3
   have c3b1 : ((a0.size : Int) != 5) = true := bne_iff_ne.mpr c3
   (first | rw [c3b0] | (simp only [i64_w, i32_w]; rw [c3b0]) | skip)
   have H' := Aside0.mk H
   clear H
   go_wp2
   repeat (go_quiet (fail); try go_wp2)
   go_meet
   case rel => exact ⟨_, (a0), (by first | with_reducible rfl | (simp only [pps, Nat.reduceAdd]; done) | rfl | (simp; done) | (simp [*]; done)), H', ⟨by first | omega | exact Nat.le_refl _⟩, by repeat (first | exact Drawn0.refl _ | apply Drawn0.step)⟩
 case rest =>
  clear HC2
  try clear p2
  try clear c3
  try clear c3b0
  try clear c3b1
  try clear c4
  try clear c4b0
  try clear c4b1
  try clear c4b2
  obtain ⟨kq, x0_1, rfl, HA, HJ1, ⟨mc1, rfl⟩⟩ := hcut
  cases kq with
  | zero => exact absurd HA.out (by simp [haversackref09_clock.j0])
  | succ kj1 =>
   have H := HA.out
   clear HA
   simp only [haversackref09_clock.j0] at H
   have HC5 := Aside0.mk H
   clear H
   go_upto_region 3 with (fail)
   repeat (go_quiet (fail); go_upto_region 3 with (fail))
   go_cut [22] (fun v22 wc => ∃ (kq : Nat) (x22_4 : Bool), v22 = .bool x22_4 ∧ Aside0 (haversackref09_clock.j1 kq x0_1 x22_4 = some (r1, r2, r3)) ∧ Aside0 (kq ≤ kj1) ∧ Drawn0 w wc)
   case first =>
    have H := HC5.out
    clear HC5
    by_cases c6 : (x0_1.size : Int) = 8
    ·
     rw [if_pos c6] at H
     have c6b0 : ((x0_1.size : Int) == 8) = true := beq_iff_eq.mpr c6
     have c6b1 : ((x0_1.size : Int) != 8) = false := bne_eq_false_iff_eq.mpr c6
     clear c6
     (first | rw [c6b0] | (simp only [i64_w, i32_w]; rw [c6b0]) | skip)
     by_cases c7 : 2 < (x0_1.size : Int)
     ·
      rw [if_pos c7] at H
      have c7b0 : decide (2 < (x0_1.size : Int)) = true := decide_eq_true c7
      have c7b1 : decide (2 < x0_1.size) = true := decide_eq_true (by omega)
      clear c7
      by_cases c9 : (bt x0_1 2) = 58
      ·
       rw [if_pos c9] at H
       have c9b0 : ((bt x0_1 2) == 58) = true := beq_iff_eq.mpr c9
       have c9b1 : ((bt x0_1 2) != 58) = false := bne_eq_false_iff_eq.mpr c9
       clear c9
       by_cases c10 : 5 < (x0_1.size : Int)
       ·
        rw [if_pos c10] at H
        have c10b0 : decide (5 < (x0_1.size : Int)) = true := decide_eq_true c10
        have c10b1 : decide (5 < x0_1.size) = true := decide_eq_true (by omega)
        clear c10
        have H' := Aside0.mk H
        clear H
        have p8 : 0 ≤ (2 : Int) := (by omega)
        have q8 : 2 < x0_1.size := (by have : (2 : Int) < (x0_1.size : Int) := of_decide_eq_true (by first | (with_reducible assumption) | assumption); omega)
        have hx8 : ∀ h : 2 < x0_1.size, ((x0_1[2]'h).toNat : Int) = bt x0_1 2 := bt_at x0_1 2
        clear p8
        have qi8 : (2 < (x0_1.size : Int)) = True := eq_true (of_decide_eq_true (by first | (with_reducible assumption) | assumption))
        replace q8 := eq_true q8
        have p11 : 0 ≤ (5 : Int) := (by omega)
        have q11 : 5 < x0_1.size := (by have : (5 : Int) < (x0_1.size : Int) := of_decide_eq_true (by first | (with_reducible assumption) | assumption); omega)
        have hx11 : ∀ h : 5 < x0_1.size, ((x0_1[5]'h).toNat : Int) = bt x0_1 5 := bt_at x0_1 5
        clear p11
        have qi11 : (5 < (x0_1.size : Int)) = True := eq_true (of_decide_eq_true (by first | (with_reducible assumption) | assumption))
        replace q11 := eq_true q11
        go_wp2
        repeat (go_quiet (fail); try go_wp2)
        go_meet
        case rel => exact ⟨_, (((bt x0_1 5) != 58)), (by first | with_reducible rfl | (simp only [pps, Nat.reduceAdd]; done) | rfl | (simp; done) | (simp [*]; done)), H', ⟨by have := HJ1.out; first | omega | exact Nat.le_refl _⟩, by repeat (first | exact Drawn0.refl _ | apply Drawn0.step)⟩
       ·
        rw [if_neg c10] at H
        exact absurd H (by simp)
      ·
       rw [if_neg c9] at H
       have c9b0 : ((bt x0_1 2) == 58) = false := beq_eq_false_iff_ne.mpr c9
       have c9b1 : ((bt x0_1 2) != 58) = true := bne_iff_ne.mpr c9
       have H' := Aside0.mk H
       clear H
       have p8 : 0 ≤ (2 : Int) := (by omega)
       have q8 : 2 < x0_1.size := (by have : (2 : Int) < (x0_1.size : Int) := of_decide_eq_true (by first | (with_reducible assumption) | assumption); omega)
       have hx8 : ∀ h : 2 < x0_1.size, ((x0_1[2]'h).toNat : Int) = bt x0_1 2 := bt_at x0_1 2
       clear p8
       have qi8 : (2 < (x0_1.size : Int)) = True := eq_true (of_decide_eq_true (by first | (with_reducible assumption) | assumption))
       replace q8 := eq_true q8
       go_wp2
       repeat (go_quiet (fail); try go_wp2)
       go_meet
       case rel => exact ⟨_, (true), (by first | with_reducible rfl | (simp only [pps, Nat.reduceAdd]; done) | rfl | (simp; done) | (simp [*]; done)), H', ⟨by have := HJ1.out; first | omega | exact Nat.le_refl _⟩, by repeat (first | exact Drawn0.refl _ | apply Drawn0.step)⟩
     ·
      rw [if_neg c7] at H
      exact absurd H (by simp)
    ·
     rw [if_neg c6] at H
     have c6b0 : ((x0_1.size : Int) == 8) = false := beq_eq_false_iff_ne.mpr c6
     have c6b1 : ((x0_1.size : Int) != 8) = true := bne_iff_ne.mpr c6
     (first | rw [c6b0] | (simp only [i64_w, i32_w]; rw [c6b0]) | skip)
     have H' := Aside0.mk H
     clear H
     go_wp2
     repeat (go_quiet (fail); try go_wp2)
     go_meet
     case rel => exact ⟨_, (true), (by first | with_reducible rfl | (simp only [pps, Nat.reduceAdd]; done) | rfl | (simp; done) | (simp [*]; done)), H', ⟨by have := HJ1.out; first | omega | exact Nat.le_refl _⟩, by repeat (first | exact Drawn0.refl _ | apply Drawn0.step)⟩
   case rest =>
    clear HC5
    try clear c1
    try clear p1
    try clear q1
    try clear hx1
    try clear qi1
    try clear p2
    try clear c3
    try clear c3b0
    try clear c3b1
    try clear c4
    try clear c4b0
    try clear c4b1
    try clear c4b2
    try clear c6
    try clear c6b0
    try clear c6b1
    try clear c7
    try clear c7b0
    try clear c7b1
    try clear p8
    try clear q8
    try clear hx8
    try clear qi8
    try clear c9
    try clear c9b0
    try clear c9b1
    try clear c10
    try clear c10b0
    try clear c10b1
    try clear p11
    try clear q11
    try clear hx11
    try clear qi11
    try clear p11
    try clear p2
    try clear p8
    try clear q11
    try clear q8
    obtain ⟨kq, x22_4, rfl, HA, HJ4, ⟨mc4, rfl⟩⟩ := hcut
    cases kq with
    | zero => exact absurd HA.out (by simp [haversackref09_clock.j1])
    | succ kj4 =>
     have H := HA.out
     clear HA
     simp only [haversackref09_clock.j1] at H
     by_cases c12 : x22_4 = true
     ·
      subst c12
      have H1 : (some ((-1), 0, 0)) = some (r1, r2, r3) := by rw [if_pos rfl] at H; exact H
      clear H
      have H := H1
      clear H1
      simp only [Option.some.injEq, Prod.mk.injEq] at H
      obtain ⟨rfl, rfl, rfl⟩ := H
      go_wp2
      repeat (go_quiet (fail); try go_wp2)
      go_ret3
      exact ⟨by first | with_reducible rfl | (simp only [pps, Nat.reduceAdd]; done) | rfl | (simp; done) | (simp [*]; done), by repeat (first | exact Drawn0.refl _ | apply Drawn0.step)⟩
     ·
      replace c12 := Bool.eq_false_iff.mpr c12
      subst c12
      have H1 : (if 0 ≤ 2 then (if 2 ≤ (x0_1.size : Int) then ((haversackref09_Number.f kj4 (x0_1.extract 0 2)).bind fun t223 => (if 3 ≤ 5 then (if 5 ≤ (x0_1.size : Int) then ((haversackref09_Number.f kj4 (x0_1.extract 3 5)).bind fun t224 => (if 6 ≤ (x0_1.size : Int) then ((haversackref09_Number.f kj4 (x0_1.extract 6 x0_1.size)).bind fun t225 => (some (t223, t224, t225))) else (none))) else (none)) else (none))) else (none)) else (none)) = some (r1, r2, r3) := by rw [if_neg (show ¬ (false = true) by decide)] at H; exact H
      clear H
      have H := H1
      clear H1
      by_cases c13 : 0 ≤ 2
      ·
       rw [if_pos c13] at H
       have c13b0 := eq_true c13
       have c13b1 : decide (0 ≤ 2) = true := decide_eq_true c13
       clear c13
       by_cases c14 : 2 ≤ (x0_1.size : Int)
       ·
        rw [if_pos c14] at H
        have c14b0 := eq_true c14
        have c14b1 : decide (2 ≤ (x0_1.size : Int)) = true := decide_eq_true c14
        clear c14
        replace H := Option.bind_eq_some_iff.mp H
        obtain ⟨t223, A150, H⟩ := H
        replace H : (if 3 ≤ 5 then (if 5 ≤ (x0_1.size : Int) then ((haversackref09_Number.f kj4 (x0_1.extract 3 5)).bind fun t224 => (if 6 ≤ (x0_1.size : Int) then ((haversackref09_Number.f kj4 (x0_1.extract 6 x0_1.size)).bind fun t225 => (some (t223, t224, t225))) else (none))) else (none)) else (none)) = some (r1, r2, r3) := H
        have A15 := Aside0.mk A150
        clear A150
        by_cases c16 : 3 ≤ 5
        ·
         rw [if_pos c16] at H
         have c16b0 := eq_true c16
         have c16b1 : decide (3 ≤ 5) = true := decide_eq_true c16
         clear c16
         by_cases c17 : 5 ≤ (x0_1.size : Int)
         ·
          rw [if_pos c17] at H
          have c17b0 := eq_true c17
          have c17b1 : decide (5 ≤ (x0_1.size : Int)) = true := decide_eq_true c17
          clear c17
          replace H := Option.bind_eq_some_iff.mp H
          obtain ⟨t224, A180, H⟩ := H
          replace H : (if 6 ≤ (x0_1.size : Int) then ((haversackref09_Number.f kj4 (x0_1.extract 6 x0_1.size)).bind fun t225 => (some (t223, t224, t225))) else (none)) = some (r1, r2, r3) := H
          have A18 := Aside0.mk A180
          clear A180
          by_cases c19 : 6 ≤ (x0_1.size : Int)
          ·
           rw [if_pos c19] at H
           have c19b0 := eq_true c19
           have c19b1 : decide (6 ≤ (x0_1.size : Int)) = true := decide_eq_true c19
           clear c19
           replace H := Option.bind_eq_some_iff.mp H
           obtain ⟨t225, A200, H⟩ := H
           replace H : (some (t223, t224, t225)) = some (r1, r2, r3) := H
           have A20 := Aside0.mk A200
           clear A200
           simp only [Option.some.injEq, Prod.mk.injEq] at H
           obtain ⟨rfl, rfl, rfl⟩ := H
           go_wp2_with (first | (go_at_call 34; (with_reducible refine (haversackref09_Number.calls kj4 (x0_1.extract 0 2) t223 _ A15.out).mono ?_); rintro e w' ⟨rfl, ⟨nd, rfl⟩⟩; (try first | exact ⟨rfl, _, World.drewN_drewN _ _ _⟩ | exact ⟨rfl, _, Eq.trans (World.drewN_drewN _ _ _) (congrArg (World.drewN _) (Nat.add_assoc _ _ _))⟩)) | (go_at_call 34; (with_reducible refine (haversackref09_Number.calls kj4 (x0_1.extract 3 5) t224 _ A18.out).mono ?_); rintro e w' ⟨rfl, ⟨nd, rfl⟩⟩; (try first | exact ⟨rfl, _, World.drewN_drewN _ _ _⟩ | exact ⟨rfl, _, Eq.trans (World.drewN_drewN _ _ _) (congrArg (World.drewN _) (Nat.add_assoc _ _ _))⟩)) | (go_at_call 34; (with_reducible refine (haversackref09_Number.calls kj4 (x0_1.extract 6 x0_1.size) t225 _ A20.out).mono ?_); rintro e w' ⟨rfl, ⟨nd, rfl⟩⟩; (try first | exact ⟨rfl, _, World.drewN_drewN _ _ _⟩ | exact ⟨rfl, _, Eq.trans (World.drewN_drewN _ _ _) (congrArg (World.drewN _) (Nat.add_assoc _ _ _))⟩)))
           repeat (go_quiet (first | (go_at_call 34; (with_reducible refine (haversackref09_Number.calls kj4 (x0_1.extract 0 2) t223 _ A15.out).mono ?_); rintro e w' ⟨rfl, ⟨nd, rfl⟩⟩; (try first | exact ⟨rfl, _, World.drewN_drewN _ _ _⟩ | exact ⟨rfl, _, Eq.trans (World.drewN_drewN _ _ _) (congrArg (World.drewN _) (Nat.add_assoc _ _ _))⟩)) | (go_at_call 34; (with_reducible refine (haversackref09_Number.calls kj4 (x0_1.extract 3 5) t224 _ A18.out).mono ?_); rintro e w' ⟨rfl, ⟨nd, rfl⟩⟩; (try first | exact ⟨rfl, _, World.drewN_drewN _ _ _⟩ | exact ⟨rfl, _, Eq.trans (World.drewN_drewN _ _ _) (congrArg (World.drewN _) (Nat.add_assoc _ _ _))⟩)) | (go_at_call 34; (with_reducible refine (haversackref09_Number.calls kj4 (x0_1.extract 6 x0_1.size) t225 _ A20.out).mono ?_); rintro e w' ⟨rfl, ⟨nd, rfl⟩⟩; (try first | exact ⟨rfl, _, World.drewN_drewN _ _ _⟩ | exact ⟨rfl, _, Eq.trans (World.drewN_drewN _ _ _) (congrArg (World.drewN _) (Nat.add_assoc _ _ _))⟩))); try go_wp2_with (first | (go_at_call 34; (with_reducible refine (haversackref09_Number.calls kj4 (x0_1.extract 0 2) t223 _ A15.out).mono ?_); rintro e w' ⟨rfl, ⟨nd, rfl⟩⟩; (try first | exact ⟨rfl, _, World.drewN_drewN _ _ _⟩ | exact ⟨rfl, _, Eq.trans (World.drewN_drewN _ _ _) (congrArg (World.drewN _) (Nat.add_assoc _ _ _))⟩)) | (go_at_call 34; (with_reducible refine (haversackref09_Number.calls kj4 (x0_1.extract 3 5) t224 _ A18.out).mono ?_); rintro e w' ⟨rfl, ⟨nd, rfl⟩⟩; (try first | exact ⟨rfl, _, World.drewN_drewN _ _ _⟩ | exact ⟨rfl, _, Eq.trans (World.drewN_drewN _ _ _) (congrArg (World.drewN _) (Nat.add_assoc _ _ _))⟩)) | (go_at_call 34; (with_reducible refine (haversackref09_Number.calls kj4 (x0_1.extract 6 x0_1.size) t225 _ A20.out).mono ?_); rintro e w' ⟨rfl, ⟨nd, rfl⟩⟩; (try first | exact ⟨rfl, _, World.drewN_drewN _ _ _⟩ | exact ⟨rfl, _, Eq.trans (World.drewN_drewN _ _ _) (congrArg (World.drewN _) (Nat.add_assoc _ _ _))⟩))))
           go_ret3
           exact ⟨by first | with_reducible rfl | (simp only [pps, Nat.reduceAdd]; done) | rfl | (simp; done) | (simp [*]; done), by repeat (first | exact Drawn0.refl _ | apply Drawn0.step)⟩
          ·
           rw [if_neg c19] at H
           exact absurd H (by simp)
         ·
          rw [if_neg c17] at H
          exact absurd H (by simp)
        ·
         rw [if_neg c16] at H
         exact absurd H (by simp)
       ·
        rw [if_neg c14] at H
        exact absurd H (by simp)
      ·
       rw [if_neg c13] at H
       exact absurd H (by simp)
end Go.Proofs.YtooknjpdflokkaaDoor.PP
