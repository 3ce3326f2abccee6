-- PRINTED by print.py (a twelfth state) out of the translation. Not trusted: Lean checks it.
import Derived.Test.YtnkibbfpmhgeaaaDoorPPx0
namespace Go.Proofs.YtnkibbfpmhgeaaaDoor.PP
open Go.RowKit Go.Proofs.YtnkibbfpmhgeaaaDoorW.PrintWords Go.Proofs.YtnkibbfpmhgeaaaDoorW.PrintLast Go.Proofs.YtnkibbfpmhgeaaaDoorW.PrintMore
attribute [local go_sem] max2_int min2_int max_two min_two max_three min_three max_four min_four   -- for this text's walks alone
open Go.Proofs.YtnkibbfpmhgeaaaDoor.My
set_option linter.unusedVariables false
set_option linter.unusedSimpArgs false

/-! ### haversackref07_Match: function 19 -/
mutual
def haversackref07_Match.l0 : Nat → ByteArray → ByteArray → Int → List Bool → Int → Option (Bool)
 | 0, _, _, _, _, _ => none
 | k + 1, x0, x1, x5, x6, x7 => if x7 ≤ (x0.size : Int) then (if 0 ≤ (wrap64 (x7 - 1)) then (if (wrap64 (x7 - 1)) < (x0.size : Int) then (haversackref07_Match.l1 k x0 x1 x5 x6 x7 (bt x0 (wrap64 (x7 - 1))) 0) else (none)) else (none)) else (if 0 ≤ (wrap64 ((x6.length : Int) - 1)) then (if (wrap64 ((x6.length : Int) - 1)) < (x6.length : Int) then (some (rdOf false x6 (wrap64 ((x6.length : Int) - 1)))) else (none)) else (none))
def haversackref07_Match.l1 : Nat → ByteArray → ByteArray → Int → List Bool → Int → Int → Int → Option (Bool)
 | 0, _, _, _, _, _, _, _ => none
 | k + 1, x0, x1, x5, x6, x7, x8, x9 => if x9 < x5 then (if x8 = 42 then (haversackref07_Match.j2 k x0 x1 x5 x6 x7 x8 x9 false) else (haversackref07_Match.j2 k x0 x1 x5 x6 x7 x8 x9 (x8 != 37))) else (haversackref07_Match.l0 k x0 x1 x5 x6 (wrap64 (x7 + 1)))
def haversackref07_Match.j2 : Nat → ByteArray → ByteArray → Int → List Bool → Int → Int → Int → Bool → Option (Bool)
 | 0, _, _, _, _, _, _, _, _ => none
 | k + 1, x0, x1, x5, x6, x7, x8, x9, x42 => if x42 = true then (if x9 > 0 then (if 0 ≤ (wrap64 (x9 - 1)) then (if (wrap64 (x9 - 1)) < (x1.size : Int) then (if (bt x1 (wrap64 (x9 - 1))) = x8 then (if 0 ≤ (wrap64 ((wrap64 ((wrap64 ((wrap64 (x7 - 1)) * x5)) + x9)) - 1)) then (if (wrap64 ((wrap64 ((wrap64 ((wrap64 (x7 - 1)) * x5)) + x9)) - 1)) < (x6.length : Int) then (if 0 ≤ (wrap64 ((wrap64 (x7 * x5)) + x9)) then (if (wrap64 ((wrap64 (x7 * x5)) + x9)) < (x6.length : Int) then (haversackref07_Match.l1 k x0 x1 x5 (x6.set ((wrap64 ((wrap64 (x7 * x5)) + x9)) : Int).toNat (rdOf false x6 (wrap64 ((wrap64 ((wrap64 ((wrap64 (x7 - 1)) * x5)) + x9)) - 1)))) x7 x8 (wrap64 (x9 + 1))) else (none)) else (none)) else (none)) else (none)) else (if 0 ≤ (wrap64 ((wrap64 (x7 * x5)) + x9)) then (if (wrap64 ((wrap64 (x7 * x5)) + x9)) < (x6.length : Int) then (haversackref07_Match.l1 k x0 x1 x5 (x6.set ((wrap64 ((wrap64 (x7 * x5)) + x9)) : Int).toNat false) x7 x8 (wrap64 (x9 + 1))) else (none)) else (none))) else (none)) else (none)) else (if 0 ≤ (wrap64 ((wrap64 (x7 * x5)) + x9)) then (if (wrap64 ((wrap64 (x7 * x5)) + x9)) < (x6.length : Int) then (haversackref07_Match.l1 k x0 x1 x5 (x6.set ((wrap64 ((wrap64 (x7 * x5)) + x9)) : Int).toNat false) x7 x8 (wrap64 (x9 + 1))) else (none)) else (none))) else (haversackref07_Match.l2 k x0 x1 x5 x6 x7 x8 x9 x9)
def haversackref07_Match.l2 : Nat → ByteArray → ByteArray → Int → List Bool → Int → Int → Int → Int → Option (Bool)
 | 0, _, _, _, _, _, _, _, _ => none
 | k + 1, x0, x1, x5, x6, x7, x8, x9, x10 => if x10 ≥ 0 then (if x10 < x9 then (if x8 = 37 then (if 0 ≤ x10 then (if x10 < (x1.size : Int) then (haversackref07_Match.j4 k x0 x1 x5 x6 x7 x8 x9 x10 ((bt x1 x10) == 47)) else (none)) else (none)) else (haversackref07_Match.j4 k x0 x1 x5 x6 x7 x8 x9 x10 false)) else (haversackref07_Match.j4 k x0 x1 x5 x6 x7 x8 x9 x10 false)) else (haversackref07_Match.l1 k x0 x1 x5 x6 x7 x8 (wrap64 (x9 + 1)))
def haversackref07_Match.j4 : Nat → ByteArray → ByteArray → Int → List Bool → Int → Int → Int → Int → Bool → Option (Bool)
 | 0, _, _, _, _, _, _, _, _, _ => none
 | k + 1, x0, x1, x5, x6, x7, x8, x9, x10, x89 => if x89 = true then (haversackref07_Match.l1 k x0 x1 x5 x6 x7 x8 (wrap64 (x9 + 1))) else (if 0 ≤ (wrap64 ((wrap64 ((wrap64 (x7 - 1)) * x5)) + x10)) then (if (wrap64 ((wrap64 ((wrap64 (x7 - 1)) * x5)) + x10)) < (x6.length : Int) then (if rdOf false x6 (wrap64 ((wrap64 ((wrap64 (x7 - 1)) * x5)) + x10)) = true then (if 0 ≤ (wrap64 ((wrap64 (x7 * x5)) + x9)) then (if (wrap64 ((wrap64 (x7 * x5)) + x9)) < (x6.length : Int) then (haversackref07_Match.l2 k x0 x1 x5 (x6.set ((wrap64 ((wrap64 (x7 * x5)) + x9)) : Int).toNat true) x7 x8 x9 (wrap64 (x10 - 1))) else (none)) else (none)) else (haversackref07_Match.l2 k x0 x1 x5 x6 x7 x8 x9 (wrap64 (x10 - 1)))) else (none)) else (none))
end
def haversackref07_Match.f (k : Nat) (a0 : ByteArray) (a1 : ByteArray) : Option (Bool) := if 0 ≤ (wrap64 ((wrap64 ((a0.size : Int) + 1)) * (wrap64 ((a1.size : Int) + 1)))) then (if (wrap64 ((wrap64 ((a0.size : Int) + 1)) * (wrap64 ((a1.size : Int) + 1))) : Int).toNat ≤ 281474976710656 then ((some (List.replicate (wrap64 ((wrap64 ((a0.size : Int) + 1)) * (wrap64 ((a1.size : Int) + 1))) : Int).toNat false : List Bool)).bind fun y147 => (if 0 < (y147.length : Int) then (haversackref07_Match.l0 k a0 a1 (wrap64 ((a1.size : Int) + 1)) (y147.set (0 : Int).toNat true) 1) else (none))) else (none)) else (none)
theorem haversackref07_Match.mono_l : ∀ k, (∀ y0 y1 y2 y3 y4, LeO (haversackref07_Match.l0 k y0 y1 y2 y3 y4) (haversackref07_Match.l0 (k + 1) y0 y1 y2 y3 y4)) ∧ (∀ y0 y1 y2 y3 y4 y5 y6, LeO (haversackref07_Match.l1 k y0 y1 y2 y3 y4 y5 y6) (haversackref07_Match.l1 (k + 1) y0 y1 y2 y3 y4 y5 y6)) ∧ (∀ y0 y1 y2 y3 y4 y5 y6 y7, LeO (haversackref07_Match.j2 k y0 y1 y2 y3 y4 y5 y6 y7) (haversackref07_Match.j2 (k + 1) y0 y1 y2 y3 y4 y5 y6 y7)) ∧ (∀ y0 y1 y2 y3 y4 y5 y6 y7, LeO (haversackref07_Match.l2 k y0 y1 y2 y3 y4 y5 y6 y7) (haversackref07_Match.l2 (k + 1) y0 y1 y2 y3 y4 y5 y6 y7)) ∧ (∀ y0 y1 y2 y3 y4 y5 y6 y7 y8, LeO (haversackref07_Match.j4 k y0 y1 y2 y3 y4 y5 y6 y7 y8) (haversackref07_Match.j4 (k + 1) y0 y1 y2 y3 y4 y5 y6 y7 y8))
 | 0 => ⟨fun _ _ _ _ _ r h => by simp [haversackref07_Match.l0] at h, fun _ _ _ _ _ _ _ r h => by simp [haversackref07_Match.l1] at h, fun _ _ _ _ _ _ _ _ r h => by simp [haversackref07_Match.j2] at h, fun _ _ _ _ _ _ _ _ r h => by simp [haversackref07_Match.l2] at h, fun _ _ _ _ _ _ _ _ _ r h => by simp [haversackref07_Match.j4] at h⟩
 | k + 1 => by
  obtain ⟨ih0, ih1, ih2, ih3, ih4⟩ := haversackref07_Match.mono_l k
  refine ⟨?_, ?_, ?_, ?_, ?_⟩
  ·
   intro y0 y1 y2 y3 y4
   unfold haversackref07_Match.l0
   repeat' first
   | (with_reducible exact ih0 _ _ _ _ _)
   | (with_reducible exact ih1 _ _ _ _ _ _ _)
   | (with_reducible exact ih2 _ _ _ _ _ _ _ _)
   | (with_reducible exact ih3 _ _ _ _ _ _ _ _)
   | (with_reducible exact ih4 _ _ _ _ _ _ _ _ _)
   | (with_reducible exact LeO.refl _)
   | (with_reducible exact LeO.none _)
   | (with_reducible refine LeO.ite ?_ ?_)
   | (with_reducible refine LeO.bind ?_ (fun _ => ?_))
   | exact ih0 _ _ _ _ _
   | exact ih1 _ _ _ _ _ _ _
   | exact ih2 _ _ _ _ _ _ _ _
   | exact ih3 _ _ _ _ _ _ _ _
   | exact ih4 _ _ _ _ _ _ _ _ _
   | exact LeO.none _
   | refine LeO.ite ?_ ?_
   | refine LeO.bind ?_ (fun _ => ?_)
  ·
   intro y0 y1 y2 y3 y4 y5 y6
   unfold haversackref07_Match.l1
   repeat' first
   | (with_reducible exact ih0 _ _ _ _ _)
   | (with_reducible exact ih1 _ _ _ _ _ _ _)
   | (with_reducible exact ih2 _ _ _ _ _ _ _ _)
   | (with_reducible exact ih3 _ _ _ _ _ _ _ _)
   | (with_reducible exact ih4 _ _ _ _ _ _ _ _ _)
   | (with_reducible exact LeO.refl _)
   | (with_reducible exact LeO.none _)
   | (with_reducible refine LeO.ite ?_ ?_)
   | (with_reducible refine LeO.bind ?_ (fun _ => ?_))
   | exact ih0 _ _ _ _ _
   | exact ih1 _ _ _ _ _ _ _
   | exact ih2 _ _ _ _ _ _ _ _
   | exact ih3 _ _ _ _ _ _ _ _
   | exact ih4 _ _ _ _ _ _ _ _ _
   | exact LeO.none _
   | refine LeO.ite ?_ ?_
   | refine LeO.bind ?_ (fun _ => ?_)
  ·
   intro y0 y1 y2 y3 y4 y5 y6 y7
   unfold haversackref07_Match.j2
   repeat' first
   | (with_reducible exact ih0 _ _ _ _ _)
   | (with_reducible exact ih1 _ _ _ _ _ _ _)
   | (with_reducible exact ih2 _ _ _ _ _ _ _ _)
   | (with_reducible exact ih3 _ _ _ _ _ _ _ _)
   | (with_reducible exact ih4 _ _ _ _ _ _ _ _ _)
   | (with_reducible exact LeO.refl _)
   | (with_reducible exact LeO.none _)
   | (with_reducible refine LeO.ite ?_ ?_)
   | (with_reducible refine LeO.bind ?_ (fun _ => ?_))
   | exact ih0 _ _ _ _ _
   | exact ih1 _ _ _ _ _ _ _
   | exact ih2 _ _ _ _ _ _ _ _
   | exact ih3 _ _ _ _ _ _ _ _
   | exact ih4 _ _ _ _ _ _ _ _ _
   | exact LeO.none _
   | refine LeO.ite ?_ ?_
   | refine LeO.bind ?_ (fun _ => ?_)
  ·
   intro y0 y1 y2 y3 y4 y5 y6 y7
   unfold haversackref07_Match.l2
   repeat' first
   | (with_reducible exact ih0 _ _ _ _ _)
   | (with_reducible exact ih1 _ _ _ _ _ _ _)
   | (with_reducible exact ih2 _ _ _ _ _ _ _ _)
   | (with_reducible exact ih3 _ _ _ _ _ _ _ _)
   | (with_reducible exact ih4 _ _ _ _ _ _ _ _ _)
   | (with_reducible exact LeO.refl _)
   | (with_reducible exact LeO.none _)
   | (with_reducible refine LeO.ite ?_ ?_)
   | (with_reducible refine LeO.bind ?_ (fun _ => ?_))
   | exact ih0 _ _ _ _ _
   | exact ih1 _ _ _ _ _ _ _
   | exact ih2 _ _ _ _ _ _ _ _
   | exact ih3 _ _ _ _ _ _ _ _
   | exact ih4 _ _ _ _ _ _ _ _ _
   | exact LeO.none _
   | refine LeO.ite ?_ ?_
   | refine LeO.bind ?_ (fun _ => ?_)
  ·
   intro y0 y1 y2 y3 y4 y5 y6 y7 y8
   unfold haversackref07_Match.j4
   repeat' first
   | (with_reducible exact ih0 _ _ _ _ _)
   | (with_reducible exact ih1 _ _ _ _ _ _ _)
   | (with_reducible exact ih2 _ _ _ _ _ _ _ _)
   | (with_reducible exact ih3 _ _ _ _ _ _ _ _)
   | (with_reducible exact ih4 _ _ _ _ _ _ _ _ _)
   | (with_reducible exact LeO.refl _)
   | (with_reducible exact LeO.none _)
   | (with_reducible refine LeO.ite ?_ ?_)
   | (with_reducible refine LeO.bind ?_ (fun _ => ?_))
   | exact ih0 _ _ _ _ _
   | exact ih1 _ _ _ _ _ _ _
   | exact ih2 _ _ _ _ _ _ _ _
   | exact ih3 _ _ _ _ _ _ _ _
   | exact ih4 _ _ _ _ _ _ _ _ _
   | exact LeO.none _
   | refine LeO.ite ?_ ?_
   | refine LeO.bind ?_ (fun _ => ?_)
theorem haversackref07_Match.mono : ∀ a0 a1 k, LeO (haversackref07_Match.f k a0 a1) (haversackref07_Match.f (k + 1) a0 a1) := by
 intro a0 a1 k
 obtain ⟨ih0, ih1, ih2, ih3, ih4⟩ := haversackref07_Match.mono_l k
 unfold haversackref07_Match.f
 repeat' first
   | (with_reducible exact ih0 _ _ _ _ _)
   | (with_reducible exact ih1 _ _ _ _ _ _ _)
   | (with_reducible exact ih2 _ _ _ _ _ _ _ _)
   | (with_reducible exact ih3 _ _ _ _ _ _ _ _)
   | (with_reducible exact ih4 _ _ _ _ _ _ _ _ _)
   | (with_reducible exact LeO.refl _)
   | (with_reducible exact LeO.none _)
   | (with_reducible refine LeO.ite ?_ ?_)
   | (with_reducible refine LeO.bind ?_ (fun _ => ?_))
   | exact ih0 _ _ _ _ _
   | exact ih1 _ _ _ _ _ _ _
   | exact ih2 _ _ _ _ _ _ _ _
   | exact ih3 _ _ _ _ _ _ _ _
   | exact ih4 _ _ _ _ _ _ _ _ _
   | exact LeO.none _
   | refine LeO.ite ?_ ?_
   | refine LeO.bind ?_ (fun _ => ?_)
set_option maxHeartbeats 8000000 in
set_option maxRecDepth 100000 in
theorem haversackref07_Match.calls (k : Nat) (a0 : ByteArray) (a1 : ByteArray) (r : Bool) (w : World) (h : haversackref07_Match.f k a0 a1 = some r) :
  Calls Tryd.prog 19 #[.string a0, .string a1] w fun e w' => e = .returned (.bool r) ∧ Below w.heap.size w w' := by
 have HB := Aside0.mk (Below.refl w.heap.size w)
 have H : (if 0 ≤ (wrap64 ((wrap64 ((a0.size : Int) + 1)) * (wrap64 ((a1.size : Int) + 1)))) then (if (wrap64 ((wrap64 ((a0.size : Int) + 1)) * (wrap64 ((a1.size : Int) + 1))) : Int).toNat ≤ 281474976710656 then ((some (List.replicate (wrap64 ((wrap64 ((a0.size : Int) + 1)) * (wrap64 ((a1.size : Int) + 1))) : Int).toNat false : List Bool)).bind fun y147 => (if 0 < (y147.length : Int) then (haversackref07_Match.l0 k a0 a1 (wrap64 ((a1.size : Int) + 1)) (y147.set (0 : Int).toNat true) 1) else (none))) else (none)) else (none)) = some r := h
 clear h
 obtain ⟨ji3, hji3⟩ : ∃ j_ : Int, (wrap64 ((wrap64 ((a0.size : Int) + 1)) * (wrap64 ((a1.size : Int) + 1)))) = j_ := ⟨_, rfl⟩
 replace H : (if 0 ≤ (ji3) then (if (ji3 : Int).toNat ≤ 281474976710656 then ((some (List.replicate (ji3 : Int).toNat false : List Bool)).bind fun y147 => (if 0 < (y147.length : Int) then (haversackref07_Match.l0 k a0 a1 (wrap64 ((a1.size : Int) + 1)) (y147.set (0 : Int).toNat true) 1) else (none))) else (none)) else (none)) = some r := by first | (rw [hji3] at H; exact H) | (simp only [hji3] at H ⊢; exact H)
 have hji3w : (IntKind.i64.wrap ((wrap64 ((a0.size : Int) + 1)) * (wrap64 ((a1.size : Int) + 1)))) = ji3 := (i64_w _).trans hji3
 by_cases c4 : 0 ≤ (ji3)
 ·
  rw [if_pos c4] at H
  have c4b0 := eq_true c4
  have c4b1 : decide (0 ≤ (ji3)) = true := decide_eq_true c4
  clear c4
  by_cases c5 : (ji3 : Int).toNat ≤ 281474976710656
  ·
   rw [if_pos c5] at H
   have c5b0 := eq_true c5
   have c5b1 : decide ((ji3 : Int).toNat ≤ 281474976710656) = true := decide_eq_true c5
   clear c5
   obtain ⟨y147, hy147⟩ : ∃ y_ : List Bool, y_ = (List.replicate (ji3 : Int).toNat false) := ⟨_, rfl⟩
   replace H : (if 0 < (y147.length : Int) then (haversackref07_Match.l0 k a0 a1 (wrap64 ((a1.size : Int) + 1)) (y147.set (0 : Int).toNat true) 1) else (none)) = some r := by first | (rw [hy147]; with_reducible exact H) | (have H2_ := (Option.bind_some _ _).symm.trans H; rw [hy147]; with_reducible exact H2_) | (have H2_ := (Option.bind_some _ _).symm.trans H; with_reducible exact H2_) | with_reducible exact H | (rw [hy147]; exact H) | exact H
   have Ny147 := Aside0.mk hy147
   clear hy147
   by_cases c6 : 0 < (y147.length : Int)
   ·
    rw [if_pos c6] at H
    have c6b0 : decide (0 < (y147.length : Int)) = true := decide_eq_true c6
    have c6b1 : decide (0 < y147.length) = true := decide_eq_true (by omega)
    clear c6
    obtain ⟨y150, hy150⟩ : ∃ y_ : List Bool, y_ = (y147.set (0 : Int).toNat true) := ⟨_, rfl⟩
    replace H : (haversackref07_Match.l0 k a0 a1 (wrap64 ((a1.size : Int) + 1)) y150 1) = some r := by first | (rw [hy150]; with_reducible exact H) | (have H2_ := (Option.bind_some _ _).symm.trans H; rw [hy150]; with_reducible exact H2_) | (have H2_ := (Option.bind_some _ _).symm.trans H; with_reducible exact H2_) | with_reducible exact H | (rw [hy150]; exact H) | exact H
    have Ny150 := Aside0.mk hy150
    clear hy150
    have H' := Aside0.mk H
    clear H
    go_enter Tryd.func19, Tryd.ntmps19
    go_wp2_with (first | ((with_reducible refine gate_dst (N := 19) rfl ?_); refine Kd.R_make Kd.bool _ 4 rfl (N := 19) rfl 68 _ _ rfl ji3 rfl rfl Tryd.underlying68 (.bool false) 1 info4 rfl (by decide) (by omega) false (ok := fun _ => True) (okp := fun _ => True) rfl (fun _ hk => hk) trivial (of_decide_eq_true (by first | (with_reducible assumption) | assumption)) (Nat.le_trans (Nat.mul_le_mul_right _ (of_decide_eq_true (by first | (with_reducible assumption) | assumption) : ji3.toNat ≤ 281474976710656)) (by omega)) (Below.refl _ _) (Nat.le_refl _) ?_; intro v148 w8 ho9 hb hg_ hnew_; clear hg_ hnew_; (first | rw [← Ny147.out] at ho9 | (simp only [Int.reduceToNat] at ho9; rw [← Ny147.out] at ho9)); have n0_ := Aside0.mk (Kd.R_lower ho9 (below_size (by repeat (first | (with_reducible first | exact HB.out | apply below_alloc | apply pw_below_drewN | apply below_drew1) | exact HB.out)))); have n1_ := Aside0.mk (below_step (by repeat (first | (with_reducible first | exact HB.out | apply below_alloc | apply pw_below_drewN | apply below_drew1) | exact HB.out)) hb); clear HB; have HO149 := n0_; have HB := n1_; clear n0_ n1_; clear hb ho9; have p7 : 0 ≤ (0 : Int) := (by omega); have q7 : (0 : Int) < ((y147.length : Int) : Int) := of_decide_eq_true (by first | (with_reducible assumption) | assumption); have qi7 : (0 < y147.length) = True := eq_true (by omega); obtain ⟨go7, co7, eo7, gb7, gl7, cl7, HG7⟩ := Kd.R_form HO149.out (by omega); (first | cases eo7 | (injection eo7 with ea_ en_ ec_; (first | subst ea_ | (injection ea_ with ea_; subst ea_)); subst ec_; clear en_)); have GB7 := Aside0.mk gb7; have GG7 := Aside0.mk HG7; clear gb7 gl7 HG7; obtain ⟨hx7_0, hf7_0⟩ := Kd.R_celln false HO149.out (0 : Int) p7 q7; (try rw [show ((0 : Int)).toNat = 0 from rfl] at hx7_0); (try simp only [Nat.reduceMul, Nat.zero_mul, Nat.zero_add, Nat.reduceAdd] at hx7_0); (try rw [show ((0 : Int)).toNat = 0 from rfl] at hf7_0); (try simp only [Nat.reduceMul, Nat.zero_mul, Nat.zero_add, Nat.reduceAdd] at hf7_0); replace p7 := eq_true p7; replace q7 := eq_true q7; obtain ⟨hy10_, hz10_⟩ := Kd.R_celln false HO149.out (0 : Int) (by omega) (of_decide_eq_true (by first | (with_reducible assumption) | assumption)); (try simp only [Int.reduceToNat, Int.toNat_zero, Int.toNat_ofNat, Nat.reduceMul, Nat.zero_mul, Nat.zero_add] at hy10_ hz10_); (try rw [show ((0 : Int)).toNat = 0 from rfl] at hy10_); (try rw [show ((0 : Int)).toNat = 0 from rfl] at hz10_); have HP10 := Kd.R_putg HO149.out (0 : Int) true) | ((with_reducible refine gate_store (t := 4) (p := 21) rfl ?_); refine store_event (t := 4) (p := 21) (v := ?vo_w11) (w1 := (w8.setCell ⟨go7, (0 : Int).toNat, none⟩ (.bool true))) ?hg ?ho ?hn ?hr ?_; (case ho => rfl); (case hg => rfl); (case hn => rfl); (case hr => first | (go_simp; done) | (go_simp; rfl)); intro w11 hw; have hg : w8.grownBy w11 (some go7) := (by rw [hw]; exact HP10.2); have hp_ : Kd.R Kd.bool 4 w11 w.heap.size (fun _ => True) (.slice (some ⟨go7, 0, none⟩) y147.length co7) y150 := (by rw [hw, Ny150.out]; exact HP10.1); clear HP10; have n0_ := Aside0.mk (hp_); have n1_ := Aside0.mk ((by rw [hw]; exact below_set (HB.out) GB7.out : Below w.heap.size w w11)); clear HO149; clear HB; have HO149 := n0_; have HB := n1_; clear n0_ n1_; clear hg hw hp_))
    go_loopg [7] k (fun kq v7 w' => ∃ (x6_1 : List Bool) (x7_1 : Int), v7 = .int .i64 x7_1 ∧ Aside0 (haversackref07_Match.l0 kq a0 a1 (wrap64 ((a1.size : Int) + 1)) x6_1 x7_1 = some r) ∧ Aside0 (kq ≤ k) ∧ Aside0 (Kd.R Kd.bool 4 w' w.heap.size (fun _ => True) (.slice (some ⟨go7, 0, none⟩) y147.length co7) x6_1) ∧ Aside0 (Below w.heap.size w w'))
    case atStart => exact ⟨(y150), (1), (by first | with_reducible rfl | (simp only [pps, Nat.reduceAdd]; done) | rfl | (simp; done) | (simp [*]; done)), H', ⟨Nat.le_refl _⟩, ⟨by (with_reducible repeat (first | apply Kd.R_alloc | apply Kd.R_drewN | apply Kd.R_drew)); exact HO149.out⟩, ⟨by repeat (first | (with_reducible first | exact HB.out | apply below_alloc | apply pw_below_drewN | apply below_drew1) | exact HB.out)⟩⟩
    case round =>
     clear H'
     try clear c1
     try clear p2
     try clear c4
     try clear c4b0
     try clear c4b1
     try clear c5
     try clear c5b0
     try clear c5b1
     try clear c6
     try clear c6b0
     try clear c6b1
     try clear p6
     try clear p7
     try clear q7
     try clear hx7
     try clear qi7
     try clear hf7
     try clear hx7_0
     try clear p7
     try clear q7
     obtain ⟨x6_1, x7_1, rfl, HA, HK1, HO_6, HB⟩ := hrel
     have hl6_1 := (Kd.R_reads' HO_6.out).1
     rw [hl6_1] at HO_6
     (try simp only [hl6_1])
     cases gk with
     | zero => exact absurd HA.out (by simp [haversackref07_Match.l0])
     | succ k1 =>
      have H := HA.out
      clear HA
      simp only [haversackref07_Match.l0] at H
      by_cases c12 : x7_1 ≤ (a0.size : Int)
      ·
       rw [if_pos c12] at H
       have c12b0 : decide (x7_1 ≤ (a0.size : Int)) = true := decide_eq_true c12
       clear c12
       obtain ⟨ji13, hji13⟩ : ∃ j_ : Int, (wrap64 (x7_1 - 1)) = j_ := ⟨_, rfl⟩
       replace H : (if 0 ≤ (ji13) then (if (ji13) < (a0.size : Int) then (haversackref07_Match.l1 k1 a0 a1 (wrap64 ((a1.size : Int) + 1)) x6_1 x7_1 (bt a0 (ji13)) 0) else (none)) else (none)) = some r := by first | (rw [hji13] at H; exact H) | (simp only [hji13] at H ⊢; exact H)
       have hji13w : (IntKind.i64.wrap (x7_1 - 1)) = ji13 := (i64_w _).trans hji13
       by_cases c14 : 0 ≤ (ji13)
       ·
        rw [if_pos c14] at H
        have c14b0 : decide (0 ≤ (ji13)) = true := decide_eq_true c14
        clear c14
        by_cases c15 : (ji13) < (a0.size : Int)
        ·
         rw [if_pos c15] at H
         have c15b0 : decide ((ji13) < (a0.size : Int)) = true := decide_eq_true c15
         clear c15
         have H' := Aside0.mk H
         clear H
         have p16 : 0 ≤ ((ji13) : Int) := of_decide_eq_true (by first | (with_reducible assumption) | assumption)
         have q16 : (ji13) < (a0.size : Int) := of_decide_eq_true (by first | (with_reducible assumption) | assumption)
         have hx16 := bt_at a0 (ji13)
         replace p16 := eq_true p16
         replace q16 := eq_true q16
         go_wp2
         go_loopg [9] k1 (fun kq v9 w' => ∃ (x6_2 : List Bool) (x9_2 : Int), v9 = .int .i64 x9_2 ∧ Aside0 (haversackref07_Match.l1 kq a0 a1 (wrap64 ((a1.size : Int) + 1)) x6_2 x7_1 (bt a0 (ji13)) x9_2 = some r) ∧ Aside0 (kq ≤ k1) ∧ Aside0 (Kd.R Kd.bool 4 w' w.heap.size (fun _ => True) (.slice (some ⟨go7, 0, none⟩) x6_1.length co7) x6_2) ∧ Aside0 (Below w.heap.size w w'))
         case atStart => exact ⟨(x6_1), (0), (by first | with_reducible rfl | (simp only [pps, Nat.reduceAdd]; done) | rfl | (simp; done) | (simp [*]; done)), H', ⟨Nat.le_refl _⟩, ⟨by (try simp only [hl6_1]); (with_reducible repeat (first | apply Kd.R_alloc | apply Kd.R_drewN | apply Kd.R_drew)); exact HO_6.out⟩, ⟨by repeat (first | (with_reducible first | exact HB.out | apply below_alloc | apply pw_below_drewN | apply below_drew1) | exact HB.out)⟩⟩
         case round =>
          clear H'
          try clear c1
          try clear p1
          try clear q1
          try clear hx1
          try clear p2
          try clear c4
          try clear c4b0
          try clear c4b1
          try clear c5
          try clear c5b0
          try clear c5b1
          try clear c6
          try clear c6b0
          try clear c6b1
          try clear p6
          try clear p7
          try clear q7
          try clear hx7
          try clear qi7
          try clear hf7
          try clear c12
          try clear c12b0
          try clear c14
          try clear c14b0
          try clear c15
          try clear c15b0
          try clear p16
          try clear q16
          try clear hx16
          try clear hx7_0
          try clear p16
          try clear p2
          try clear p6
          try clear p7
          try clear q16
          try clear q7
          obtain ⟨x6_2, x9_2, rfl, HA, HK2, HO_6, HB⟩ := hrel
          have hl6_2 := (Kd.R_reads' HO_6.out).1
          rw [hl6_2] at HO_6
          (try simp only [hl6_2])
          cases gk with
          | zero => exact absurd HA.out (by simp [haversackref07_Match.l1])
          | succ k2 =>
           have H := HA.out
           clear HA
           simp only [haversackref07_Match.l1] at H
           by_cases c17 : x9_2 < (wrap64 ((a1.size : Int) + 1))
           ·
            rw [if_pos c17] at H
            have c17b0 : decide (x9_2 < (wrap64 ((a1.size : Int) + 1))) = true := decide_eq_true c17
            clear c17
            have HC18 := Aside0.mk H
            clear H
            go_upto_region 11 with (fail)
            go_cut [42] (fun v42 wc => ∃ (kq : Nat) (x42_17 : Bool), v42 = .bool x42_17 ∧ Aside0 (haversackref07_Match.j2 kq a0 a1 (wrap64 ((a1.size : Int) + 1)) x6_2 x7_1 (bt a0 (ji13)) x9_2 x42_17 = some r) ∧ Aside0 (kq ≤ k2) ∧ Aside0 (Kd.R Kd.bool 4 wc w.heap.size (fun _ => True) (.slice (some ⟨go7, 0, none⟩) x6_2.length co7) x6_2) ∧ Aside0 (Below w.heap.size w wc))
            case first =>
             have H := HC18.out
             clear HC18
             by_cases c19 : (bt a0 (ji13)) = 42
             ·
              rw [if_pos c19] at H
              have c19b0 : ((bt a0 (ji13)) == 42) = true := beq_iff_eq.mpr c19
              have c19b1 : ((bt a0 (ji13)) != 42) = false := bne_eq_false_iff_eq.mpr c19
              clear c19
              (first | rw [c19b0] | (simp only [i64_w, i32_w]; rw [c19b0]) | skip)
              have H' := Aside0.mk H
              clear H
              go_wp2
              go_meet
              case rel => exact ⟨_, (false), (by first | with_reducible rfl | (simp only [pps, Nat.reduceAdd]; done) | rfl | (simp; done) | (simp [*]; done)), H', ⟨by have := HK1.out; have := HK2.out; first | omega | exact Nat.le_refl _⟩, ⟨by (try simp only [hl6_1]); (try simp only [hl6_2]); (with_reducible repeat (first | apply Kd.R_alloc | apply Kd.R_drewN | apply Kd.R_drew)); exact HO_6.out⟩, ⟨by repeat (first | (with_reducible first | exact HB.out | apply below_alloc | apply pw_below_drewN | apply below_drew1) | exact HB.out)⟩⟩
             ·
              rw [if_neg c19] at H
              have c19b0 : ((bt a0 (ji13)) == 42) = false := beq_eq_false_iff_ne.mpr c19
              have c19b1 : ((bt a0 (ji13)) != 42) = true := bne_iff_ne.mpr c19
              (first | rw [c19b0] | (simp only [i64_w, i32_w]; rw [c19b0]) | skip)
              have H' := Aside0.mk H
              clear H
              go_wp2
              go_meet
              case rel => exact ⟨_, (((bt a0 (ji13)) != 37)), (by first | with_reducible rfl | (simp only [pps, Nat.reduceAdd]; done) | rfl | (simp; done) | (simp only [← hji13] <;> (first | rfl | simp)) | (simp [*]; done)), H', ⟨by have := HK1.out; have := HK2.out; first | omega | exact Nat.le_refl _⟩, ⟨by (try simp only [hl6_1]); (try simp only [hl6_2]); (with_reducible repeat (first | apply Kd.R_alloc | apply Kd.R_drewN | apply Kd.R_drew)); exact HO_6.out⟩, ⟨by repeat (first | (with_reducible first | exact HB.out | apply below_alloc | apply pw_below_drewN | apply below_drew1) | exact HB.out)⟩⟩
            case rest =>
             clear HC18
             try clear c1
             try clear p1
             try clear q1
             try clear hx1
             try clear p2
             try clear c4
             try clear c4b0
             try clear c4b1
             try clear c5
             try clear c5b0
             try clear c5b1
             try clear c6
             try clear c6b0
             try clear c6b1
             try clear p6
             try clear p7
             try clear q7
             try clear hx7
             try clear qi7
             try clear hf7
             try clear c12
             try clear c12b0
             try clear c14
             try clear c14b0
             try clear c15
             try clear c15b0
             try clear p16
             try clear q16
             try clear hx16
             try clear c17
             try clear c17b0
             try clear c19
             try clear c19b0
             try clear c19b1
             try clear hx7_0
             try clear p1
             try clear p16
             try clear p2
             try clear p6
             try clear p7
             try clear q1
             try clear q16
             try clear q7
             obtain ⟨kq, x42_17, rfl, HA, HJ17, HO_6, HB⟩ := hcut
             cases kq with
             | zero => exact absurd HA.out (by simp [haversackref07_Match.j2])
             | succ kj17 =>
              have H := HA.out
              clear HA
              simp only [haversackref07_Match.j2] at H
              by_cases c20 : x42_17 = true
              ·
               subst c20
               have H1 : (if x9_2 > 0 then (if 0 ≤ (wrap64 (x9_2 - 1)) then (if (wrap64 (x9_2 - 1)) < (a1.size : Int) then (if (bt a1 (wrap64 (x9_2 - 1))) = (bt a0 (ji13)) then (if 0 ≤ (wrap64 ((wrap64 ((wrap64 ((wrap64 (x7_1 - 1)) * (wrap64 ((a1.size : Int) + 1)))) + x9_2)) - 1)) then (if (wrap64 ((wrap64 ((wrap64 ((wrap64 (x7_1 - 1)) * (wrap64 ((a1.size : Int) + 1)))) + x9_2)) - 1)) < (x6_2.length : Int) then (if 0 ≤ (wrap64 ((wrap64 (x7_1 * (wrap64 ((a1.size : Int) + 1)))) + x9_2)) then (if (wrap64 ((wrap64 (x7_1 * (wrap64 ((a1.size : Int) + 1)))) + x9_2)) < (x6_2.length : Int) then (haversackref07_Match.l1 kj17 a0 a1 (wrap64 ((a1.size : Int) + 1)) (x6_2.set ((wrap64 ((wrap64 (x7_1 * (wrap64 ((a1.size : Int) + 1)))) + x9_2)) : Int).toNat (rdOf false x6_2 (wrap64 ((wrap64 ((wrap64 ((wrap64 (x7_1 - 1)) * (wrap64 ((a1.size : Int) + 1)))) + x9_2)) - 1)))) x7_1 (bt a0 (ji13)) (wrap64 (x9_2 + 1))) else (none)) else (none)) else (none)) else (none)) else (if 0 ≤ (wrap64 ((wrap64 (x7_1 * (wrap64 ((a1.size : Int) + 1)))) + x9_2)) then (if (wrap64 ((wrap64 (x7_1 * (wrap64 ((a1.size : Int) + 1)))) + x9_2)) < (x6_2.length : Int) then (haversackref07_Match.l1 kj17 a0 a1 (wrap64 ((a1.size : Int) + 1)) (x6_2.set ((wrap64 ((wrap64 (x7_1 * (wrap64 ((a1.size : Int) + 1)))) + x9_2)) : Int).toNat false) x7_1 (bt a0 (ji13)) (wrap64 (x9_2 + 1))) else (none)) else (none))) else (none)) else (none)) else (if 0 ≤ (wrap64 ((wrap64 (x7_1 * (wrap64 ((a1.size : Int) + 1)))) + x9_2)) then (if (wrap64 ((wrap64 (x7_1 * (wrap64 ((a1.size : Int) + 1)))) + x9_2)) < (x6_2.length : Int) then (haversackref07_Match.l1 kj17 a0 a1 (wrap64 ((a1.size : Int) + 1)) (x6_2.set ((wrap64 ((wrap64 (x7_1 * (wrap64 ((a1.size : Int) + 1)))) + x9_2)) : Int).toNat false) x7_1 (bt a0 (ji13)) (wrap64 (x9_2 + 1))) else (none)) else (none))) = some r := by rw [if_pos rfl] at H; exact H
               clear H
               have H := H1
               clear H1
               by_cases c21 : x9_2 > 0
               ·
                rw [if_pos c21] at H
                have c21b0 : decide (0 < x9_2) = true := decide_eq_true c21
                clear c21
                obtain ⟨ji22, hji22⟩ : ∃ j_ : Int, (wrap64 (x9_2 - 1)) = j_ := ⟨_, rfl⟩
                replace H : (if 0 ≤ (ji22) then (if (ji22) < (a1.size : Int) then (if (bt a1 (ji22)) = (bt a0 (ji13)) then (if 0 ≤ (wrap64 ((wrap64 ((wrap64 ((wrap64 (x7_1 - 1)) * (wrap64 ((a1.size : Int) + 1)))) + x9_2)) - 1)) then (if (wrap64 ((wrap64 ((wrap64 ((wrap64 (x7_1 - 1)) * (wrap64 ((a1.size : Int) + 1)))) + x9_2)) - 1)) < (x6_2.length : Int) then (if 0 ≤ (wrap64 ((wrap64 (x7_1 * (wrap64 ((a1.size : Int) + 1)))) + x9_2)) then (if (wrap64 ((wrap64 (x7_1 * (wrap64 ((a1.size : Int) + 1)))) + x9_2)) < (x6_2.length : Int) then (haversackref07_Match.l1 kj17 a0 a1 (wrap64 ((a1.size : Int) + 1)) (x6_2.set ((wrap64 ((wrap64 (x7_1 * (wrap64 ((a1.size : Int) + 1)))) + x9_2)) : Int).toNat (rdOf false x6_2 (wrap64 ((wrap64 ((wrap64 ((wrap64 (x7_1 - 1)) * (wrap64 ((a1.size : Int) + 1)))) + x9_2)) - 1)))) x7_1 (bt a0 (ji13)) (wrap64 (x9_2 + 1))) else (none)) else (none)) else (none)) else (none)) else (if 0 ≤ (wrap64 ((wrap64 (x7_1 * (wrap64 ((a1.size : Int) + 1)))) + x9_2)) then (if (wrap64 ((wrap64 (x7_1 * (wrap64 ((a1.size : Int) + 1)))) + x9_2)) < (x6_2.length : Int) then (haversackref07_Match.l1 kj17 a0 a1 (wrap64 ((a1.size : Int) + 1)) (x6_2.set ((wrap64 ((wrap64 (x7_1 * (wrap64 ((a1.size : Int) + 1)))) + x9_2)) : Int).toNat false) x7_1 (bt a0 (ji13)) (wrap64 (x9_2 + 1))) else (none)) else (none))) else (none)) else (none)) = some r := by first | (rw [hji22] at H; exact H) | (simp only [hji22] at H ⊢; exact H)
                have hji22w : (IntKind.i64.wrap (x9_2 - 1)) = ji22 := (i64_w _).trans hji22
                by_cases c23 : 0 ≤ (ji22)
                ·
                 rw [if_pos c23] at H
                 have c23b0 : decide (0 ≤ (ji22)) = true := decide_eq_true c23
                 clear c23
                 by_cases c24 : (ji22) < (a1.size : Int)
                 ·
                  rw [if_pos c24] at H
                  have c24b0 : decide ((ji22) < (a1.size : Int)) = true := decide_eq_true c24
                  clear c24
                  by_cases c26 : (bt a1 (ji22)) = (bt a0 (ji13))
                  ·
                   rw [if_pos c26] at H
                   have c26b0 : ((bt a1 (ji22)) == (bt a0 (ji13))) = true := beq_iff_eq.mpr c26
                   have c26b1 : ((bt a1 (ji22)) != (bt a0 (ji13))) = false := bne_eq_false_iff_eq.mpr c26
                   clear c26
                   obtain ⟨ji27, hji27⟩ : ∃ j_ : Int, (wrap64 ((wrap64 ((wrap64 ((wrap64 (x7_1 - 1)) * (wrap64 ((a1.size : Int) + 1)))) + x9_2)) - 1)) = j_ := ⟨_, rfl⟩
                   replace H : (if 0 ≤ (ji27) then (if (ji27) < (x6_2.length : Int) then (if 0 ≤ (wrap64 ((wrap64 (x7_1 * (wrap64 ((a1.size : Int) + 1)))) + x9_2)) then (if (wrap64 ((wrap64 (x7_1 * (wrap64 ((a1.size : Int) + 1)))) + x9_2)) < (x6_2.length : Int) then (haversackref07_Match.l1 kj17 a0 a1 (wrap64 ((a1.size : Int) + 1)) (x6_2.set ((wrap64 ((wrap64 (x7_1 * (wrap64 ((a1.size : Int) + 1)))) + x9_2)) : Int).toNat (rdOf false x6_2 (ji27))) x7_1 (bt a0 (ji13)) (wrap64 (x9_2 + 1))) else (none)) else (none)) else (none)) else (none)) = some r := by first | (rw [hji27] at H; exact H) | (simp only [hji27] at H ⊢; exact H)
                   have hji27w : (IntKind.i64.wrap ((wrap64 ((wrap64 ((wrap64 (x7_1 - 1)) * (wrap64 ((a1.size : Int) + 1)))) + x9_2)) - 1)) = ji27 := (i64_w _).trans hji27
                   (try rw [hji13] at hji27w)
                   by_cases c28 : 0 ≤ (ji27)
                   ·
                    rw [if_pos c28] at H
                    have c28b0 : decide (0 ≤ (ji27)) = true := decide_eq_true c28
                    clear c28
                    by_cases c29 : (ji27) < (x6_2.length : Int)
                    ·
                     rw [if_pos c29] at H
                     have c29b0 : decide ((ji27) < (x6_2.length : Int)) = true := decide_eq_true c29
                     clear c29
                     obtain ⟨ji30, hji30⟩ : ∃ j_ : Int, (wrap64 ((wrap64 (x7_1 * (wrap64 ((a1.size : Int) + 1)))) + x9_2)) = j_ := ⟨_, rfl⟩
                     replace H : (if 0 ≤ (ji30) then (if (ji30) < (x6_2.length : Int) then (haversackref07_Match.l1 kj17 a0 a1 (wrap64 ((a1.size : Int) + 1)) (x6_2.set ((ji30) : Int).toNat (rdOf false x6_2 (ji27))) x7_1 (bt a0 (ji13)) (wrap64 (x9_2 + 1))) else (none)) else (none)) = some r := by first | (rw [hji30] at H; exact H) | (simp only [hji30] at H ⊢; exact H)
                     have hji30w : (IntKind.i64.wrap ((wrap64 (x7_1 * (wrap64 ((a1.size : Int) + 1)))) + x9_2)) = ji30 := (i64_w _).trans hji30
                     by_cases c31 : 0 ≤ (ji30)
                     ·
                      rw [if_pos c31] at H
                      have c31b0 : decide (0 ≤ (ji30)) = true := decide_eq_true c31
                      clear c31
                      by_cases c32 : (ji30) < (x6_2.length : Int)
                      ·
                       rw [if_pos c32] at H
                       have c32b0 : decide ((ji30) < (x6_2.length : Int)) = true := decide_eq_true c32
                       clear c32
                       obtain ⟨y153, hy153⟩ : ∃ y_ : List Bool, y_ = (x6_2.set ((ji30) : Int).toNat (rdOf false x6_2 (ji27))) := ⟨_, rfl⟩
                       replace H : (haversackref07_Match.l1 kj17 a0 a1 (wrap64 ((a1.size : Int) + 1)) y153 x7_1 (bt a0 (ji13)) (wrap64 (x9_2 + 1))) = some r := by first | (rw [hy153]; with_reducible exact H) | (have H2_ := (Option.bind_some _ _).symm.trans H; rw [hy153]; with_reducible exact H2_) | (have H2_ := (Option.bind_some _ _).symm.trans H; with_reducible exact H2_) | with_reducible exact H | (rw [hy153]; exact H) | exact H
                       have Ny153 := Aside0.mk hy153
                       clear hy153
                       have H' := Aside0.mk H
                       clear H
                       have p25 : 0 ≤ ((ji22) : Int) := of_decide_eq_true (by first | (with_reducible assumption) | assumption)
                       have q25 : (ji22) < (a1.size : Int) := of_decide_eq_true (by first | (with_reducible assumption) | assumption)
                       have hx25 := bt_at a1 (ji22)
                       replace p25 := eq_true p25
                       replace q25 := eq_true q25
                       have p152 : 0 ≤ ((ji27) : Int) := of_decide_eq_true (by first | (with_reducible assumption) | assumption)
                       have q152 : (ji27) < (x6_2.length : Int) := of_decide_eq_true (by first | (with_reducible assumption) | assumption)
                       obtain ⟨ad152, e152, hx152_0⟩ := Kd.at_bool (Kd.R_reads' HO_6.out).2.2 (ji27) p152 q152
                       obtain rfl : (⟨go7, 0, none⟩ : Addr) = ad152 := (by injection e152)
                       (first | simp only [add_plain] at hx152_0 | simp only [add_at] at hx152_0 | simp only [Addr.add, Nat.zero_add] at hx152_0 | skip)
                       replace p152 := eq_true p152
                       replace q152 := eq_true q152
                       have p33 : 0 ≤ ((ji30) : Int) := of_decide_eq_true (by first | (with_reducible assumption) | assumption)
                       have q33 : ((ji30) : Int) < ((x6_2.length : Int) : Int) := of_decide_eq_true (by first | (with_reducible assumption) | assumption)
                       obtain ⟨hx33_0, hf33_0⟩ := Kd.R_celln false HO_6.out ((ji30) : Int) p33 q33
                       replace p33 := eq_true p33
                       replace q33 := eq_true q33
                       have HP34 := Kd.R_putg HO_6.out ((ji30) : Int) (rdOf false x6_2 (ji27))
                       go_wp2_with (first | ((with_reducible refine gate_store (t := 4) (p := 71) rfl ?_); refine store_event (t := 4) (p := 71) (v := ?vo_w35) (w1 := (wc.setCell ⟨go7, ((ji30) : Int).toNat, none⟩ (.bool (rdOf false x6_2 (ji27))))) ?hg ?ho ?hn ?hr ?_; (case ho => rfl); (case hg => rfl); (case hn => rfl); (case hr => first | (go_simp; done) | (go_simp; rfl)); intro w35 hw; have hg : wc.grownBy w35 (some go7) := (by rw [hw]; exact HP34.2); have hp_ : Kd.R Kd.bool 4 w35 w.heap.size (fun _ => True) (.slice (some ⟨go7, 0, none⟩) x6_2.length co7) y153 := (by rw [hw, Ny153.out]; exact HP34.1); clear HP34; have n0_ := Aside0.mk (hp_); have n1_ := Aside0.mk ((by rw [hw]; exact below_set (HB.out) GB7.out : Below w.heap.size w w35)); clear HO_6; clear HB; have HO_6 := n0_; have HB := n1_; clear n0_ n1_; clear hg hw hp_))
                       (try simp only [← hl6_2])
                       go_roundg kj17
                       case measure => have := HK1.out; have := HK2.out; have := HJ17.out; omega
                       case rel => exact ⟨(y153), (wrap64 (x9_2 + 1)), (by first | with_reducible rfl | (simp only [pps, Nat.reduceAdd]; done) | rfl | (simp; done) | (simp [*]; done)), H', ⟨by have := HK1.out; have := HK2.out; have := HJ17.out; omega⟩, ⟨by (try simp only [hl6_1]); (try simp only [hl6_2]); (with_reducible repeat (first | apply Kd.R_alloc | apply Kd.R_drewN | apply Kd.R_drew)); exact HO_6.out⟩, ⟨by repeat (first | (with_reducible first | exact HB.out | apply below_alloc | apply pw_below_drewN | apply below_drew1) | exact HB.out)⟩⟩
                      ·
                       rw [if_neg c32] at H
                       exact absurd H (by simp)
                     ·
                      rw [if_neg c31] at H
                      exact absurd H (by simp)
                    ·
                     rw [if_neg c29] at H
                     exact absurd H (by simp)
                   ·
                    rw [if_neg c28] at H
                    exact absurd H (by simp)
                  ·
                   rw [if_neg c26] at H
                   have c26b0 : ((bt a1 (ji22)) == (bt a0 (ji13))) = false := beq_eq_false_iff_ne.mpr c26
                   have c26b1 : ((bt a1 (ji22)) != (bt a0 (ji13))) = true := bne_iff_ne.mpr c26
                   obtain ⟨ji36, hji36⟩ : ∃ j_ : Int, (wrap64 ((wrap64 (x7_1 * (wrap64 ((a1.size : Int) + 1)))) + x9_2)) = j_ := ⟨_, rfl⟩
                   replace H : (if 0 ≤ (ji36) then (if (ji36) < (x6_2.length : Int) then (haversackref07_Match.l1 kj17 a0 a1 (wrap64 ((a1.size : Int) + 1)) (x6_2.set ((ji36) : Int).toNat false) x7_1 (bt a0 (ji13)) (wrap64 (x9_2 + 1))) else (none)) else (none)) = some r := by first | (rw [hji36] at H; exact H) | (simp only [hji36] at H ⊢; exact H)
                   have hji36w : (IntKind.i64.wrap ((wrap64 (x7_1 * (wrap64 ((a1.size : Int) + 1)))) + x9_2)) = ji36 := (i64_w _).trans hji36
                   by_cases c37 : 0 ≤ (ji36)
                   ·
                    rw [if_pos c37] at H
                    have c37b0 : decide (0 ≤ (ji36)) = true := decide_eq_true c37
                    clear c37
                    by_cases c38 : (ji36) < (x6_2.length : Int)
                    ·
                     rw [if_pos c38] at H
                     have c38b0 : decide ((ji36) < (x6_2.length : Int)) = true := decide_eq_true c38
                     clear c38
                     obtain ⟨y154, hy154⟩ : ∃ y_ : List Bool, y_ = (x6_2.set ((ji36) : Int).toNat false) := ⟨_, rfl⟩
                     replace H : (haversackref07_Match.l1 kj17 a0 a1 (wrap64 ((a1.size : Int) + 1)) y154 x7_1 (bt a0 (ji13)) (wrap64 (x9_2 + 1))) = some r := by first | (rw [hy154]; with_reducible exact H) | (have H2_ := (Option.bind_some _ _).symm.trans H; rw [hy154]; with_reducible exact H2_) | (have H2_ := (Option.bind_some _ _).symm.trans H; with_reducible exact H2_) | with_reducible exact H | (rw [hy154]; exact H) | exact H
                     have Ny154 := Aside0.mk hy154
                     clear hy154
                     have H' := Aside0.mk H
                     clear H
                     have p25 : 0 ≤ ((ji22) : Int) := of_decide_eq_true (by first | (with_reducible assumption) | assumption)
                     have q25 : (ji22) < (a1.size : Int) := of_decide_eq_true (by first | (with_reducible assumption) | assumption)
                     have hx25 := bt_at a1 (ji22)
                     replace p25 := eq_true p25
                     replace q25 := eq_true q25
                     have p39 : 0 ≤ ((ji36) : Int) := of_decide_eq_true (by first | (with_reducible assumption) | assumption)
                     have q39 : ((ji36) : Int) < ((x6_2.length : Int) : Int) := of_decide_eq_true (by first | (with_reducible assumption) | assumption)
                     obtain ⟨hx39_0, hf39_0⟩ := Kd.R_celln false HO_6.out ((ji36) : Int) p39 q39
                     replace p39 := eq_true p39
                     replace q39 := eq_true q39
                     have HP40 := Kd.R_putg HO_6.out ((ji36) : Int) false
                     go_wp2_with (first | ((with_reducible refine gate_store (t := 4) (p := 71) rfl ?_); refine store_event (t := 4) (p := 71) (v := ?vo_w41) (w1 := (wc.setCell ⟨go7, ((ji36) : Int).toNat, none⟩ (.bool false))) ?hg ?ho ?hn ?hr ?_; (case ho => rfl); (case hg => rfl); (case hn => rfl); (case hr => first | (go_simp; done) | (go_simp; rfl)); intro w41 hw; have hg : wc.grownBy w41 (some go7) := (by rw [hw]; exact HP40.2); have hp_ : Kd.R Kd.bool 4 w41 w.heap.size (fun _ => True) (.slice (some ⟨go7, 0, none⟩) x6_2.length co7) y154 := (by rw [hw, Ny154.out]; exact HP40.1); clear HP40; have n0_ := Aside0.mk (hp_); have n1_ := Aside0.mk ((by rw [hw]; exact below_set (HB.out) GB7.out : Below w.heap.size w w41)); clear HO_6; clear HB; have HO_6 := n0_; have HB := n1_; clear n0_ n1_; clear hg hw hp_))
                     (try simp only [← hl6_2])
                     go_roundg kj17
                     case measure => have := HK1.out; have := HK2.out; have := HJ17.out; omega
                     case rel => exact ⟨(y154), (wrap64 (x9_2 + 1)), (by first | with_reducible rfl | (simp only [pps, Nat.reduceAdd]; done) | rfl | (simp; done) | (simp [*]; done)), H', ⟨by have := HK1.out; have := HK2.out; have := HJ17.out; omega⟩, ⟨by (try simp only [hl6_1]); (try simp only [hl6_2]); (with_reducible repeat (first | apply Kd.R_alloc | apply Kd.R_drewN | apply Kd.R_drew)); exact HO_6.out⟩, ⟨by repeat (first | (with_reducible first | exact HB.out | apply below_alloc | apply pw_below_drewN | apply below_drew1) | exact HB.out)⟩⟩
                    ·
                     rw [if_neg c38] at H
                     exact absurd H (by simp)
                   ·
                    rw [if_neg c37] at H
                    exact absurd H (by simp)
                 ·
                  rw [if_neg c24] at H
                  exact absurd H (by simp)
                ·
                 rw [if_neg c23] at H
                 exact absurd H (by simp)
               ·
                rw [if_neg c21] at H
                have c21b0 : decide (0 < x9_2) = false := decide_eq_false c21
                clear c21
                obtain ⟨ji42, hji42⟩ : ∃ j_ : Int, (wrap64 ((wrap64 (x7_1 * (wrap64 ((a1.size : Int) + 1)))) + x9_2)) = j_ := ⟨_, rfl⟩
                replace H : (if 0 ≤ (ji42) then (if (ji42) < (x6_2.length : Int) then (haversackref07_Match.l1 kj17 a0 a1 (wrap64 ((a1.size : Int) + 1)) (x6_2.set ((ji42) : Int).toNat false) x7_1 (bt a0 (ji13)) (wrap64 (x9_2 + 1))) else (none)) else (none)) = some r := by first | (rw [hji42] at H; exact H) | (simp only [hji42] at H ⊢; exact H)
                have hji42w : (IntKind.i64.wrap ((wrap64 (x7_1 * (wrap64 ((a1.size : Int) + 1)))) + x9_2)) = ji42 := (i64_w _).trans hji42
                by_cases c43 : 0 ≤ (ji42)
                ·
                 rw [if_pos c43] at H
                 have c43b0 : decide (0 ≤ (ji42)) = true := decide_eq_true c43
                 clear c43
                 by_cases c44 : (ji42) < (x6_2.length : Int)
                 ·
                  rw [if_pos c44] at H
                  have c44b0 : decide ((ji42) < (x6_2.length : Int)) = true := decide_eq_true c44
                  clear c44
                  obtain ⟨y155, hy155⟩ : ∃ y_ : List Bool, y_ = (x6_2.set ((ji42) : Int).toNat false) := ⟨_, rfl⟩
                  replace H : (haversackref07_Match.l1 kj17 a0 a1 (wrap64 ((a1.size : Int) + 1)) y155 x7_1 (bt a0 (ji13)) (wrap64 (x9_2 + 1))) = some r := by first | (rw [hy155]; with_reducible exact H) | (have H2_ := (Option.bind_some _ _).symm.trans H; rw [hy155]; with_reducible exact H2_) | (have H2_ := (Option.bind_some _ _).symm.trans H; with_reducible exact H2_) | with_reducible exact H | (rw [hy155]; exact H) | exact H
                  have Ny155 := Aside0.mk hy155
                  clear hy155
                  have H' := Aside0.mk H
                  clear H
                  have p45 : 0 ≤ ((ji42) : Int) := of_decide_eq_true (by first | (with_reducible assumption) | assumption)
                  have q45 : ((ji42) : Int) < ((x6_2.length : Int) : Int) := of_decide_eq_true (by first | (with_reducible assumption) | assumption)
                  obtain ⟨hx45_0, hf45_0⟩ := Kd.R_celln false HO_6.out ((ji42) : Int) p45 q45
                  replace p45 := eq_true p45
                  replace q45 := eq_true q45
                  have HP46 := Kd.R_putg HO_6.out ((ji42) : Int) false
                  go_wp2_with (first | ((with_reducible refine gate_store (t := 4) (p := 71) rfl ?_); refine store_event (t := 4) (p := 71) (v := ?vo_w47) (w1 := (wc.setCell ⟨go7, ((ji42) : Int).toNat, none⟩ (.bool false))) ?hg ?ho ?hn ?hr ?_; (case ho => rfl); (case hg => rfl); (case hn => rfl); (case hr => first | (go_simp; done) | (go_simp; rfl)); intro w47 hw; have hg : wc.grownBy w47 (some go7) := (by rw [hw]; exact HP46.2); have hp_ : Kd.R Kd.bool 4 w47 w.heap.size (fun _ => True) (.slice (some ⟨go7, 0, none⟩) x6_2.length co7) y155 := (by rw [hw, Ny155.out]; exact HP46.1); clear HP46; have n0_ := Aside0.mk (hp_); have n1_ := Aside0.mk ((by rw [hw]; exact below_set (HB.out) GB7.out : Below w.heap.size w w47)); clear HO_6; clear HB; have HO_6 := n0_; have HB := n1_; clear n0_ n1_; clear hg hw hp_))
                  (try simp only [← hl6_2])
                  go_roundg kj17
                  case measure => have := HK1.out; have := HK2.out; have := HJ17.out; omega
                  case rel => exact ⟨(y155), (wrap64 (x9_2 + 1)), (by first | with_reducible rfl | (simp only [pps, Nat.reduceAdd]; done) | rfl | (simp; done) | (simp [*]; done)), H', ⟨by have := HK1.out; have := HK2.out; have := HJ17.out; omega⟩, ⟨by (try simp only [hl6_1]); (try simp only [hl6_2]); (with_reducible repeat (first | apply Kd.R_alloc | apply Kd.R_drewN | apply Kd.R_drew)); exact HO_6.out⟩, ⟨by repeat (first | (with_reducible first | exact HB.out | apply below_alloc | apply pw_below_drewN | apply below_drew1) | exact HB.out)⟩⟩
                 ·
                  rw [if_neg c44] at H
                  exact absurd H (by simp)
                ·
                 rw [if_neg c43] at H
                 exact absurd H (by simp)
              ·
               replace c20 := Bool.eq_false_iff.mpr c20
               subst c20
               have H1 : (haversackref07_Match.l2 kj17 a0 a1 (wrap64 ((a1.size : Int) + 1)) x6_2 x7_1 (bt a0 (ji13)) x9_2 x9_2) = some r := by rw [if_neg (show ¬ (false = true) by decide)] at H; exact H
               clear H
               have H := H1
               clear H1
               have H' := Aside0.mk H
               clear H
               go_wp2
               go_loopg [10] kj17 (fun kq v10 w' => ∃ (x6_4 : List Bool) (x10_4 : Int), v10 = .int .i64 x10_4 ∧ Aside0 (haversackref07_Match.l2 kq a0 a1 (wrap64 ((a1.size : Int) + 1)) x6_4 x7_1 (bt a0 (ji13)) x9_2 x10_4 = some r) ∧ Aside0 (kq ≤ kj17) ∧ Aside0 (Kd.R Kd.bool 4 w' w.heap.size (fun _ => True) (.slice (some ⟨go7, 0, none⟩) x6_2.length co7) x6_4) ∧ Aside0 (Below w.heap.size w w'))
               case atStart => exact ⟨(x6_2), (x9_2), (by first | with_reducible rfl | (simp only [pps, Nat.reduceAdd]; done) | rfl | (simp; done) | (simp [*]; done)), H', ⟨Nat.le_refl _⟩, ⟨by (try simp only [hl6_1]); (try simp only [hl6_2]); (with_reducible repeat (first | apply Kd.R_alloc | apply Kd.R_drewN | apply Kd.R_drew)); exact HO_6.out⟩, ⟨by repeat (first | (with_reducible first | exact HB.out | apply below_alloc | apply pw_below_drewN | apply below_drew1) | exact HB.out)⟩⟩
               case round =>
                clear H'
                try clear c1
                try clear p1
                try clear q1
                try clear hx1
                try clear c2
                try clear p2
                try clear q2
                try clear hx2
                try clear c3
                try clear p3
                try clear q3
                try clear hx3
                try clear hf3
                try clear c4
                try clear c4b0
                try clear c4b1
                try clear p4
                try clear q4
                try clear hx4
                try clear hf4
                try clear c5
                try clear c5b0
                try clear c5b1
                try clear c6
                try clear c6b0
                try clear c6b1
                try clear p6
                try clear p7
                try clear q7
                try clear hx7
                try clear qi7
                try clear hf7
                try clear c12
                try clear c12b0
                try clear c14
                try clear c14b0
                try clear c15
                try clear c15b0
                try clear p15
                try clear q15
                try clear hx15
                try clear p16
                try clear q16
                try clear hx16
                try clear c17
                try clear c17b0
                try clear c19
                try clear c19b0
                try clear c19b1
                try clear c20
                try clear c21
                try clear c21b0
                try clear c23
                try clear c23b0
                try clear c24
                try clear c24b0
                try clear p25
                try clear q25
                try clear hx25
                try clear c26
                try clear c26b0
                try clear c26b1
                try clear c28
                try clear c28b0
                try clear c29
                try clear c29b0
                try clear c31
                try clear c31b0
                try clear c32
                try clear c32b0
                try clear p33
                try clear q33
                try clear hx33
                try clear hf33
                try clear c37
                try clear c37b0
                try clear c38
                try clear c38b0
                try clear p39
                try clear q39
                try clear hx39
                try clear hf39
                try clear c43
                try clear c43b0
                try clear c44
                try clear c44b0
                try clear p45
                try clear q45
                try clear hx45
                try clear hf45
                try clear hx152_0
                try clear hx33_0
                try clear hx39_0
                try clear hx45_0
                try clear hx7_0
                try clear p1
                try clear p152
                try clear p16
                try clear p2
                try clear p25
                try clear p33
                try clear p39
                try clear p45
                try clear p6
                try clear p7
                try clear q1
                try clear q152
                try clear q16
                try clear q25
                try clear q33
                try clear q39
                try clear q45
                try clear q7
                obtain ⟨x6_4, x10_4, rfl, HA, HK4, HO_6, HB⟩ := hrel
                have hl6_4 := (Kd.R_reads' HO_6.out).1
                rw [hl6_4] at HO_6
                (try simp only [hl6_4])
                cases gk with
                | zero => exact absurd HA.out (by simp [haversackref07_Match.l2])
                | succ k4 =>
                 have H := HA.out
                 clear HA
                 simp only [haversackref07_Match.l2] at H
                 by_cases c48 : x10_4 ≥ 0
                 ·
                  rw [if_pos c48] at H
                  have c48b0 : decide (0 ≤ x10_4) = true := decide_eq_true c48
                  clear c48
                  have HC49 := Aside0.mk H
                  clear H
                  go_upto_region 16 with (fail)
                  go_cut [89] (fun v89 wc => ∃ (kq : Nat) (x89_48 : Bool), v89 = .bool x89_48 ∧ Aside0 (haversackref07_Match.j4 kq a0 a1 (wrap64 ((a1.size : Int) + 1)) x6_4 x7_1 (bt a0 (ji13)) x9_2 x10_4 x89_48 = some r) ∧ Aside0 (kq ≤ k4) ∧ Aside0 (Kd.R Kd.bool 4 wc w.heap.size (fun _ => True) (.slice (some ⟨go7, 0, none⟩) x6_4.length co7) x6_4) ∧ Aside0 (Below w.heap.size w wc))
                  case first =>
                   have H := HC49.out
                   clear HC49
                   by_cases c50 : x10_4 < x9_2
                   ·
                    rw [if_pos c50] at H
                    have c50b0 : decide (x10_4 < x9_2) = true := decide_eq_true c50
                    clear c50
                    (first | rw [c50b0] | (simp only [i64_w, i32_w]; rw [c50b0]) | skip)
                    by_cases c51 : (bt a0 (ji13)) = 37
                    ·
                     rw [if_pos c51] at H
                     have c51b0 : ((bt a0 (ji13)) == 37) = true := beq_iff_eq.mpr c51
                     have c51b1 : ((bt a0 (ji13)) != 37) = false := bne_eq_false_iff_eq.mpr c51
                     clear c51
                     by_cases c52 : 0 ≤ x10_4
                     ·
                      rw [if_pos c52] at H
                      have c52b0 : decide (0 ≤ x10_4) = true := decide_eq_true c52
                      clear c52
                      by_cases c53 : x10_4 < (a1.size : Int)
                      ·
                       rw [if_pos c53] at H
                       have c53b0 : decide (x10_4 < (a1.size : Int)) = true := decide_eq_true c53
                       clear c53
                       have H' := Aside0.mk H
                       clear H
                       have p54 : 0 ≤ (x10_4 : Int) := of_decide_eq_true (by first | (with_reducible assumption) | assumption)
                       have q54 : x10_4 < (a1.size : Int) := of_decide_eq_true (by first | (with_reducible assumption) | assumption)
                       have hx54 := bt_at a1 x10_4
                       replace p54 := eq_true p54
                       replace q54 := eq_true q54
                       go_wp2
                       go_meet
                       case rel => exact ⟨_, (((bt a1 x10_4) == 47)), (by first | with_reducible rfl | (simp only [pps, Nat.reduceAdd]; done) | rfl | (simp; done) | (simp [*]; done)), H', ⟨by have := HK1.out; have := HK2.out; have := HJ17.out; have := HK4.out; first | omega | exact Nat.le_refl _⟩, ⟨by (try simp only [hl6_1]); (try simp only [hl6_2]); (try simp only [hl6_4]); (with_reducible repeat (first | apply Kd.R_alloc | apply Kd.R_drewN | apply Kd.R_drew)); exact HO_6.out⟩, ⟨by repeat (first | (with_reducible first | exact HB.out | apply below_alloc | apply pw_below_drewN | apply below_drew1) | exact HB.out)⟩⟩
                      ·
                       rw [if_neg c53] at H
                       exact absurd H (by simp)
                     ·
                      rw [if_neg c52] at H
                      exact absurd H (by simp)
                    ·
                     rw [if_neg c51] at H
                     have c51b0 : ((bt a0 (ji13)) == 37) = false := beq_eq_false_iff_ne.mpr c51
                     have c51b1 : ((bt a0 (ji13)) != 37) = true := bne_iff_ne.mpr c51
                     have H' := Aside0.mk H
                     clear H
                     go_wp2
                     go_meet
                     case rel => exact ⟨_, (false), (by first | with_reducible rfl | (simp only [pps, Nat.reduceAdd]; done) | rfl | (simp; done) | (simp [*]; done)), H', ⟨by have := HK1.out; have := HK2.out; have := HJ17.out; have := HK4.out; first | omega | exact Nat.le_refl _⟩, ⟨by (try simp only [hl6_1]); (try simp only [hl6_2]); (try simp only [hl6_4]); (with_reducible repeat (first | apply Kd.R_alloc | apply Kd.R_drewN | apply Kd.R_drew)); exact HO_6.out⟩, ⟨by repeat (first | (with_reducible first | exact HB.out | apply below_alloc | apply pw_below_drewN | apply below_drew1) | exact HB.out)⟩⟩
                   ·
                    rw [if_neg c50] at H
                    have c50b0 : decide (x10_4 < x9_2) = false := decide_eq_false c50
                    clear c50
                    (first | rw [c50b0] | (simp only [i64_w, i32_w]; rw [c50b0]) | skip)
                    have H' := Aside0.mk H
                    clear H
                    go_wp2
                    go_meet
                    case rel => exact ⟨_, (false), (by first | with_reducible rfl | (simp only [pps, Nat.reduceAdd]; done) | rfl | (simp; done) | (simp [*]; done)), H', ⟨by have := HK1.out; have := HK2.out; have := HJ17.out; have := HK4.out; first | omega | exact Nat.le_refl _⟩, ⟨by (try simp only [hl6_1]); (try simp only [hl6_2]); (try simp only [hl6_4]); (with_reducible repeat (first | apply Kd.R_alloc | apply Kd.R_drewN | apply Kd.R_drew)); exact HO_6.out⟩, ⟨by repeat (first | (with_reducible first | exact HB.out | apply below_alloc | apply pw_below_drewN | apply below_drew1) | exact HB.out)⟩⟩
                  case rest =>
                   clear HC49
                   try clear c1
                   try clear p1
                   try clear q1
                   try clear hx1
                   try clear c2
                   try clear p2
                   try clear q2
                   try clear hx2
                   try clear c3
                   try clear p3
                   try clear q3
                   try clear hx3
                   try clear hf3
                   try clear c4
                   try clear c4b0
                   try clear c4b1
                   try clear p4
                   try clear q4
                   try clear hx4
                   try clear hf4
                   try clear c5
                   try clear c5b0
                   try clear c5b1
                   try clear p5
                   try clear q5
                   try clear hx5
                   try clear c6
                   try clear c6b0
                   try clear c6b1
                   try clear p6
                   try clear p7
                   try clear q7
                   try clear hx7
                   try clear qi7
                   try clear hf7
                   try clear c12
                   try clear c12b0
                   try clear c14
                   try clear c14b0
                   try clear c15
                   try clear c15b0
                   try clear p15
                   try clear q15
                   try clear hx15
                   try clear p16
                   try clear q16
                   try clear hx16
                   try clear c17
                   try clear c17b0
                   try clear c19
                   try clear c19b0
                   try clear c19b1
                   try clear c20
                   try clear c21
                   try clear c21b0
                   try clear c23
                   try clear c23b0
                   try clear c24
                   try clear c24b0
                   try clear p25
                   try clear q25
                   try clear hx25
                   try clear c26
                   try clear c26b0
                   try clear c26b1
                   try clear c28
                   try clear c28b0
                   try clear c29
                   try clear c29b0
                   try clear c31
                   try clear c31b0
                   try clear c32
                   try clear c32b0
                   try clear p33
                   try clear q33
                   try clear hx33
                   try clear hf33
                   try clear c37
                   try clear c37b0
                   try clear c38
                   try clear c38b0
                   try clear p39
                   try clear q39
                   try clear hx39
                   try clear hf39
                   try clear c43
                   try clear c43b0
                   try clear c44
                   try clear c44b0
                   try clear p45
                   try clear q45
                   try clear hx45
                   try clear hf45
                   try clear c48
                   try clear c48b0
                   try clear c50
                   try clear c50b0
                   try clear c51
                   try clear c51b0
                   try clear c51b1
                   try clear c52
                   try clear c52b0
                   try clear c53
                   try clear c53b0
                   try clear p54
                   try clear q54
                   try clear hx54
                   try clear hx152_0
                   try clear hx33_0
                   try clear hx39_0
                   try clear hx45_0
                   try clear hx7_0
                   try clear p1
                   try clear p15
                   try clear p152
                   try clear p16
                   try clear p2
                   try clear p25
                   try clear p3
                   try clear p33
                   try clear p39
                   try clear p4
                   try clear p45
                   try clear p54
                   try clear p6
                   try clear p7
                   try clear q1
                   try clear q15
                   try clear q152
                   try clear q16
                   try clear q2
                   try clear q25
                   try clear q3
                   try clear q33
                   try clear q39
                   try clear q4
                   try clear q45
                   try clear q54
                   try clear q7
                   obtain ⟨kq, x89_48, rfl, HA, HJ48, HO_6, HB⟩ := hcut
                   cases kq with
                   | zero => exact absurd HA.out (by simp [haversackref07_Match.j4])
                   | succ kj48 =>
                    have H := HA.out
                    clear HA
                    simp only [haversackref07_Match.j4] at H
                    by_cases c55 : x89_48 = true
                    ·
                     subst c55
                     have H1 : (haversackref07_Match.l1 kj48 a0 a1 (wrap64 ((a1.size : Int) + 1)) x6_4 x7_1 (bt a0 (ji13)) (wrap64 (x9_2 + 1))) = some r := by rw [if_pos rfl] at H; exact H
                     clear H
                     have H := H1
                     clear H1
                     have H' := Aside0.mk H
                     clear H
                     go_wp2
                     (try simp only [← hl6_2, ← hl6_4])
                     go_roundg kj48
                     case measure => have := HK1.out; have := HK2.out; have := HJ17.out; have := HK4.out; have := HJ48.out; omega
                     case rel => exact ⟨(x6_4), (wrap64 (x9_2 + 1)), (by first | with_reducible rfl | (simp only [pps, Nat.reduceAdd]; done) | rfl | (simp; done) | (simp [*]; done)), H', ⟨by have := HK1.out; have := HK2.out; have := HJ17.out; have := HK4.out; have := HJ48.out; omega⟩, ⟨by (try simp only [hl6_1]); (try simp only [hl6_2]); (try simp only [hl6_4]); (with_reducible repeat (first | apply Kd.R_alloc | apply Kd.R_drewN | apply Kd.R_drew)); exact HO_6.out⟩, ⟨by repeat (first | (with_reducible first | exact HB.out | apply below_alloc | apply pw_below_drewN | apply below_drew1) | exact HB.out)⟩⟩
                    ·
                     replace c55 := Bool.eq_false_iff.mpr c55
                     subst c55
                     have H1 : (if 0 ≤ (wrap64 ((wrap64 ((wrap64 (x7_1 - 1)) * (wrap64 ((a1.size : Int) + 1)))) + x10_4)) then (if (wrap64 ((wrap64 ((wrap64 (x7_1 - 1)) * (wrap64 ((a1.size : Int) + 1)))) + x10_4)) < (x6_4.length : Int) then (if rdOf false x6_4 (wrap64 ((wrap64 ((wrap64 (x7_1 - 1)) * (wrap64 ((a1.size : Int) + 1)))) + x10_4)) = true then (if 0 ≤ (wrap64 ((wrap64 (x7_1 * (wrap64 ((a1.size : Int) + 1)))) + x9_2)) then (if (wrap64 ((wrap64 (x7_1 * (wrap64 ((a1.size : Int) + 1)))) + x9_2)) < (x6_4.length : Int) then (haversackref07_Match.l2 kj48 a0 a1 (wrap64 ((a1.size : Int) + 1)) (x6_4.set ((wrap64 ((wrap64 (x7_1 * (wrap64 ((a1.size : Int) + 1)))) + x9_2)) : Int).toNat true) x7_1 (bt a0 (ji13)) x9_2 (wrap64 (x10_4 - 1))) else (none)) else (none)) else (haversackref07_Match.l2 kj48 a0 a1 (wrap64 ((a1.size : Int) + 1)) x6_4 x7_1 (bt a0 (ji13)) x9_2 (wrap64 (x10_4 - 1)))) else (none)) else (none)) = some r := by rw [if_neg (show ¬ (false = true) by decide)] at H; exact H
                     clear H
                     have H := H1
                     clear H1
                     obtain ⟨ji56, hji56⟩ : ∃ j_ : Int, (wrap64 ((wrap64 ((wrap64 (x7_1 - 1)) * (wrap64 ((a1.size : Int) + 1)))) + x10_4)) = j_ := ⟨_, rfl⟩
                     replace H : (if 0 ≤ (ji56) then (if (ji56) < (x6_4.length : Int) then (if rdOf false x6_4 (ji56) = true then (if 0 ≤ (wrap64 ((wrap64 (x7_1 * (wrap64 ((a1.size : Int) + 1)))) + x9_2)) then (if (wrap64 ((wrap64 (x7_1 * (wrap64 ((a1.size : Int) + 1)))) + x9_2)) < (x6_4.length : Int) then (haversackref07_Match.l2 kj48 a0 a1 (wrap64 ((a1.size : Int) + 1)) (x6_4.set ((wrap64 ((wrap64 (x7_1 * (wrap64 ((a1.size : Int) + 1)))) + x9_2)) : Int).toNat true) x7_1 (bt a0 (ji13)) x9_2 (wrap64 (x10_4 - 1))) else (none)) else (none)) else (haversackref07_Match.l2 kj48 a0 a1 (wrap64 ((a1.size : Int) + 1)) x6_4 x7_1 (bt a0 (ji13)) x9_2 (wrap64 (x10_4 - 1)))) else (none)) else (none)) = some r := by first | (rw [hji56] at H; exact H) | (simp only [hji56] at H ⊢; exact H)
                     have hji56w : (IntKind.i64.wrap ((wrap64 ((wrap64 (x7_1 - 1)) * (wrap64 ((a1.size : Int) + 1)))) + x10_4)) = ji56 := (i64_w _).trans hji56
                     (try rw [hji13] at hji56w)
                     by_cases c57 : 0 ≤ (ji56)
                     ·
                      rw [if_pos c57] at H
                      have c57b0 : decide (0 ≤ (ji56)) = true := decide_eq_true c57
                      clear c57
                      by_cases c58 : (ji56) < (x6_4.length : Int)
                      ·
                       rw [if_pos c58] at H
                       have c58b0 : decide ((ji56) < (x6_4.length : Int)) = true := decide_eq_true c58
                       clear c58
                       obtain ⟨bq59, hbq59⟩ : ∃ b_ : Bool, b_ = (rdOf false x6_4 (ji56)) := ⟨_, rfl⟩
                       replace H : (if bq59 = true then (if 0 ≤ (wrap64 ((wrap64 (x7_1 * (wrap64 ((a1.size : Int) + 1)))) + x9_2)) then (if (wrap64 ((wrap64 (x7_1 * (wrap64 ((a1.size : Int) + 1)))) + x9_2)) < (x6_4.length : Int) then (haversackref07_Match.l2 kj48 a0 a1 (wrap64 ((a1.size : Int) + 1)) (x6_4.set ((wrap64 ((wrap64 (x7_1 * (wrap64 ((a1.size : Int) + 1)))) + x9_2)) : Int).toNat true) x7_1 (bt a0 (ji13)) x9_2 (wrap64 (x10_4 - 1))) else (none)) else (none)) else (haversackref07_Match.l2 kj48 a0 a1 (wrap64 ((a1.size : Int) + 1)) x6_4 x7_1 (bt a0 (ji13)) x9_2 (wrap64 (x10_4 - 1)))) = some r := by rw [← hbq59] at H; exact H
                       have Nbq59 := Aside0.mk hbq59
                       clear hbq59
                       by_cases c60 : bq59 = true
                       ·
                        subst c60
                        have H1 : (if 0 ≤ (wrap64 ((wrap64 (x7_1 * (wrap64 ((a1.size : Int) + 1)))) + x9_2)) then (if (wrap64 ((wrap64 (x7_1 * (wrap64 ((a1.size : Int) + 1)))) + x9_2)) < (x6_4.length : Int) then (haversackref07_Match.l2 kj48 a0 a1 (wrap64 ((a1.size : Int) + 1)) (x6_4.set ((wrap64 ((wrap64 (x7_1 * (wrap64 ((a1.size : Int) + 1)))) + x9_2)) : Int).toNat true) x7_1 (bt a0 (ji13)) x9_2 (wrap64 (x10_4 - 1))) else (none)) else (none)) = some r := by rw [if_pos rfl] at H; exact H
                        clear H
                        have H := H1
                        clear H1
                        obtain ⟨ji61, hji61⟩ : ∃ j_ : Int, (wrap64 ((wrap64 (x7_1 * (wrap64 ((a1.size : Int) + 1)))) + x9_2)) = j_ := ⟨_, rfl⟩
                        replace H : (if 0 ≤ (ji61) then (if (ji61) < (x6_4.length : Int) then (haversackref07_Match.l2 kj48 a0 a1 (wrap64 ((a1.size : Int) + 1)) (x6_4.set ((ji61) : Int).toNat true) x7_1 (bt a0 (ji13)) x9_2 (wrap64 (x10_4 - 1))) else (none)) else (none)) = some r := by first | (rw [hji61] at H; exact H) | (simp only [hji61] at H ⊢; exact H)
                        have hji61w : (IntKind.i64.wrap ((wrap64 (x7_1 * (wrap64 ((a1.size : Int) + 1)))) + x9_2)) = ji61 := (i64_w _).trans hji61
                        by_cases c62 : 0 ≤ (ji61)
                        ·
                         rw [if_pos c62] at H
                         have c62b0 : decide (0 ≤ (ji61)) = true := decide_eq_true c62
                         clear c62
                         by_cases c63 : (ji61) < (x6_4.length : Int)
                         ·
                          rw [if_pos c63] at H
                          have c63b0 : decide ((ji61) < (x6_4.length : Int)) = true := decide_eq_true c63
                          clear c63
                          obtain ⟨y157, hy157⟩ : ∃ y_ : List Bool, y_ = (x6_4.set ((ji61) : Int).toNat true) := ⟨_, rfl⟩
                          replace H : (haversackref07_Match.l2 kj48 a0 a1 (wrap64 ((a1.size : Int) + 1)) y157 x7_1 (bt a0 (ji13)) x9_2 (wrap64 (x10_4 - 1))) = some r := by first | (rw [hy157]; with_reducible exact H) | (have H2_ := (Option.bind_some _ _).symm.trans H; rw [hy157]; with_reducible exact H2_) | (have H2_ := (Option.bind_some _ _).symm.trans H; with_reducible exact H2_) | with_reducible exact H | (rw [hy157]; exact H) | exact H
                          have Ny157 := Aside0.mk hy157
                          clear hy157
                          have H' := Aside0.mk H
                          clear H
                          have p156 : 0 ≤ ((ji56) : Int) := of_decide_eq_true (by first | (with_reducible assumption) | assumption)
                          have q156 : (ji56) < (x6_4.length : Int) := of_decide_eq_true (by first | (with_reducible assumption) | assumption)
                          obtain ⟨ad156, e156, hx156_0⟩ := Kd.at_bool (Kd.R_reads' HO_6.out).2.2 (ji56) p156 q156
                          (try rw [← Nbq59.out] at hx156_0)
                          obtain rfl : (⟨go7, 0, none⟩ : Addr) = ad156 := (by injection e156)
                          (first | simp only [add_plain] at hx156_0 | simp only [add_at] at hx156_0 | simp only [Addr.add, Nat.zero_add] at hx156_0 | skip)
                          replace p156 := eq_true p156
                          replace q156 := eq_true q156
                          have p64 : 0 ≤ ((ji61) : Int) := of_decide_eq_true (by first | (with_reducible assumption) | assumption)
                          have q64 : ((ji61) : Int) < ((x6_4.length : Int) : Int) := of_decide_eq_true (by first | (with_reducible assumption) | assumption)
                          obtain ⟨hx64_0, hf64_0⟩ := Kd.R_celln false HO_6.out ((ji61) : Int) p64 q64
                          replace p64 := eq_true p64
                          replace q64 := eq_true q64
                          have HP65 := Kd.R_putg HO_6.out ((ji61) : Int) true
                          go_wp2_with (first | ((with_reducible refine gate_store (t := 4) (p := 105) rfl ?_); refine store_event (t := 4) (p := 105) (v := ?vo_w66) (w1 := (wc.setCell ⟨go7, ((ji61) : Int).toNat, none⟩ (.bool true))) ?hg ?ho ?hn ?hr ?_; (case ho => rfl); (case hg => rfl); (case hn => rfl); (case hr => first | (go_simp; done) | (go_simp; rfl)); intro w66 hw; have hg : wc.grownBy w66 (some go7) := (by rw [hw]; exact HP65.2); have hp_ : Kd.R Kd.bool 4 w66 w.heap.size (fun _ => True) (.slice (some ⟨go7, 0, none⟩) x6_4.length co7) y157 := (by rw [hw, Ny157.out]; exact HP65.1); clear HP65; have n0_ := Aside0.mk (hp_); have n1_ := Aside0.mk ((by rw [hw]; exact below_set (HB.out) GB7.out : Below w.heap.size w w66)); clear HO_6; clear HB; have HO_6 := n0_; have HB := n1_; clear n0_ n1_; clear hg hw hp_))
                          (try simp only [← hl6_4])
                          go_roundg kj48
                          case measure => have := HK1.out; have := HK2.out; have := HJ17.out; have := HK4.out; have := HJ48.out; omega
                          case rel => exact ⟨(y157), (wrap64 (x10_4 - 1)), (by first | with_reducible rfl | (simp only [pps, Nat.reduceAdd]; done) | rfl | (simp; done) | (simp [*]; done)), H', ⟨by have := HK1.out; have := HK2.out; have := HJ17.out; have := HK4.out; have := HJ48.out; omega⟩, ⟨by (try simp only [hl6_1]); (try simp only [hl6_2]); (try simp only [hl6_4]); (with_reducible repeat (first | apply Kd.R_alloc | apply Kd.R_drewN | apply Kd.R_drew)); exact HO_6.out⟩, ⟨by repeat (first | (with_reducible first | exact HB.out | apply below_alloc | apply pw_below_drewN | apply below_drew1) | exact HB.out)⟩⟩
                         ·
                          rw [if_neg c63] at H
                          exact absurd H (by simp)
                        ·
                         rw [if_neg c62] at H
                         exact absurd H (by simp)
                       ·
                        replace c60 := Bool.eq_false_iff.mpr c60
                        subst c60
                        have H1 : (haversackref07_Match.l2 kj48 a0 a1 (wrap64 ((a1.size : Int) + 1)) x6_4 x7_1 (bt a0 (ji13)) x9_2 (wrap64 (x10_4 - 1))) = some r := by rw [if_neg (show ¬ (false = true) by decide)] at H; exact H
                        clear H
                        have H := H1
                        clear H1
                        have H' := Aside0.mk H
                        clear H
                        have p156 : 0 ≤ ((ji56) : Int) := of_decide_eq_true (by first | (with_reducible assumption) | assumption)
                        have q156 : (ji56) < (x6_4.length : Int) := of_decide_eq_true (by first | (with_reducible assumption) | assumption)
                        obtain ⟨ad156, e156, hx156_0⟩ := Kd.at_bool (Kd.R_reads' HO_6.out).2.2 (ji56) p156 q156
                        (try rw [← Nbq59.out] at hx156_0)
                        obtain rfl : (⟨go7, 0, none⟩ : Addr) = ad156 := (by injection e156)
                        (first | simp only [add_plain] at hx156_0 | simp only [add_at] at hx156_0 | simp only [Addr.add, Nat.zero_add] at hx156_0 | skip)
                        replace p156 := eq_true p156
                        replace q156 := eq_true q156
                        go_wp2
                        (try simp only [← hl6_4])
                        go_roundg kj48
                        case measure => have := HK1.out; have := HK2.out; have := HJ17.out; have := HK4.out; have := HJ48.out; omega
                        case rel => exact ⟨(x6_4), (wrap64 (x10_4 - 1)), (by first | with_reducible rfl | (simp only [pps, Nat.reduceAdd]; done) | rfl | (simp; done) | (simp [*]; done)), H', ⟨by have := HK1.out; have := HK2.out; have := HJ17.out; have := HK4.out; have := HJ48.out; omega⟩, ⟨by (try simp only [hl6_1]); (try simp only [hl6_2]); (try simp only [hl6_4]); (with_reducible repeat (first | apply Kd.R_alloc | apply Kd.R_drewN | apply Kd.R_drew)); exact HO_6.out⟩, ⟨by repeat (first | (with_reducible first | exact HB.out | apply below_alloc | apply pw_below_drewN | apply below_drew1) | exact HB.out)⟩⟩
                      ·
                       rw [if_neg c58] at H
                       exact absurd H (by simp)
                     ·
                      rw [if_neg c57] at H
                      exact absurd H (by simp)
                 ·
                  rw [if_neg c48] at H
                  have c48b0 : decide (0 ≤ x10_4) = false := decide_eq_false c48
                  clear c48
                  have H' := Aside0.mk H
                  clear H
                  go_wp2
                  (try simp only [← hl6_2, ← hl6_4])
                  go_roundg k4
                  case measure => have := HK1.out; have := HK2.out; have := HJ17.out; have := HK4.out; omega
                  case rel => exact ⟨(x6_4), (wrap64 (x9_2 + 1)), (by first | with_reducible rfl | (simp only [pps, Nat.reduceAdd]; done) | rfl | (simp; done) | (simp [*]; done)), H', ⟨by have := HK1.out; have := HK2.out; have := HJ17.out; have := HK4.out; omega⟩, ⟨by (try simp only [hl6_1]); (try simp only [hl6_2]); (try simp only [hl6_4]); (with_reducible repeat (first | apply Kd.R_alloc | apply Kd.R_drewN | apply Kd.R_drew)); exact HO_6.out⟩, ⟨by repeat (first | (with_reducible first | exact HB.out | apply below_alloc | apply pw_below_drewN | apply below_drew1) | exact HB.out)⟩⟩
           ·
            rw [if_neg c17] at H
            have c17b0 : decide (x9_2 < (wrap64 ((a1.size : Int) + 1))) = false := decide_eq_false c17
            clear c17
            have H' := Aside0.mk H
            clear H
            go_wp2
            (try simp only [← hl6_1, ← hl6_2])
            go_roundg k2
            case measure => have := HK1.out; have := HK2.out; omega
            case rel => exact ⟨(x6_2), (wrap64 (x7_1 + 1)), (by first | with_reducible rfl | (simp only [pps, Nat.reduceAdd]; done) | rfl | (simp; done) | (simp [*]; done)), H', ⟨by have := HK1.out; have := HK2.out; omega⟩, ⟨by (try simp only [hl6_1]); (try simp only [hl6_2]); (with_reducible repeat (first | apply Kd.R_alloc | apply Kd.R_drewN | apply Kd.R_drew)); exact HO_6.out⟩, ⟨by repeat (first | (with_reducible first | exact HB.out | apply below_alloc | apply pw_below_drewN | apply below_drew1) | exact HB.out)⟩⟩
        ·
         rw [if_neg c15] at H
         exact absurd H (by simp)
       ·
        rw [if_neg c14] at H
        exact absurd H (by simp)
      ·
       rw [if_neg c12] at H
       have c12b0 : decide (x7_1 ≤ (a0.size : Int)) = false := decide_eq_false c12
       clear c12
       obtain ⟨ji67, hji67⟩ : ∃ j_ : Int, (wrap64 ((x6_1.length : Int) - 1)) = j_ := ⟨_, rfl⟩
       replace H : (if 0 ≤ (ji67) then (if (ji67) < (x6_1.length : Int) then (some (rdOf false x6_1 (ji67))) else (none)) else (none)) = some r := by first | (rw [hji67] at H; exact H) | (simp only [hji67] at H ⊢; exact H)
       have hji67w : (IntKind.i64.wrap ((x6_1.length : Int) - 1)) = ji67 := (i64_w _).trans hji67
       by_cases c68 : 0 ≤ (ji67)
       ·
        rw [if_pos c68] at H
        have c68b0 : decide (0 ≤ (ji67)) = true := decide_eq_true c68
        clear c68
        by_cases c69 : (ji67) < (x6_1.length : Int)
        ·
         rw [if_pos c69] at H
         have c69b0 : decide ((ji67) < (x6_1.length : Int)) = true := decide_eq_true c69
         clear c69
         obtain rfl := Option.some.inj H
         have p151 : 0 ≤ ((ji67) : Int) := of_decide_eq_true (by first | (with_reducible assumption) | assumption)
         have q151 : (ji67) < (x6_1.length : Int) := of_decide_eq_true (by first | (with_reducible assumption) | assumption)
         obtain ⟨ad151, e151, hx151_0⟩ := Kd.at_bool (Kd.R_reads' HO_6.out).2.2 (ji67) p151 q151
         obtain rfl : (⟨go7, 0, none⟩ : Addr) = ad151 := (by injection e151)
         (first | simp only [add_plain] at hx151_0 | simp only [add_at] at hx151_0 | simp only [Addr.add, Nat.zero_add] at hx151_0 | skip)
         replace p151 := eq_true p151
         replace q151 := eq_true q151
         go_wp2
         go_ret
         exact ⟨by first | rfl | (simp [errW_none, errW_some] <;> rfl) | (simp only [← hji3, ← hji67]; first | rfl | (simp [errW_none, errW_some] <;> rfl)) | (simp [*, errW_none, errW_some] <;> rfl), by repeat (first | (with_reducible first | exact HB.out | apply below_alloc | apply pw_below_drewN | apply below_drew1) | exact HB.out)⟩
        ·
         rw [if_neg c69] at H
         exact absurd H (by simp)
       ·
        rw [if_neg c68] at H
        exact absurd H (by simp)
   ·
    rw [if_neg c6] at H
    exact absurd H (by simp)
  ·
   rw [if_neg c5] at H
   exact absurd H (by simp)
 ·
  rw [if_neg c4] at H
  exact absurd H (by simp)

end Go.Proofs.YtnkibbfpmhgeaaaDoor.PP
