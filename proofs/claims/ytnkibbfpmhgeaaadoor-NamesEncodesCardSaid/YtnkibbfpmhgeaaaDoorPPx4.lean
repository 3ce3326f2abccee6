-- PRINTED by print.py (a twelfth state) out of the translation. Not trusted: Lean checks it.
import Derived.Test.YtnkibbfpmhgeaaaDoorPPx0
namespace Go.Proofs.YtnkibbfpmhgeaaaDoor.PP
open Go.RowKit Go.Proofs.YtnkibbfpmhgeaaaDoorW.PrintWords Go.Proofs.YtnkibbfpmhgeaaaDoorW.PrintLast Go.Proofs.YtnkibbfpmhgeaaaDoorW.PrintMore
attribute [local go_sem] max2_int min2_int max_two min_two max_three min_three max_four min_four   -- for this text's walks alone
open Go.Proofs.YtnkibbfpmhgeaaaDoor.My
set_option linter.unusedVariables false
set_option linter.unusedSimpArgs false

/-! ### names_Match: function 18 -/
mutual
def names_Match.l0 : Nat → ByteArray → ByteArray → List Bool → Int → Int → Option (Bool)
 | 0, _, _, _, _, _ => none
 | k + 1, x0, x1, x5, x17, x18 => if x18 < x17 then (if 0 ≤ (wrap64 ((x1.size : Int) + 1)) then (if (wrap64 ((x1.size : Int) + 1) : Int).toNat ≤ 281474976710656 then (if 0 ≤ x18 then (if x18 < (x0.size : Int) then (names_Match.l1 k x0 x1 x5 (List.replicate (wrap64 ((x1.size : Int) + 1) : Int).toNat false) (bt x0 x18) x17 x18 (x5.length : Int) 0) else (none)) else (none)) else (none)) else (none)) else (if 0 ≤ (x1.size : Int) then (if (x1.size : Int) < (x5.length : Int) then (some (rdOf false x5 (x1.size : Int))) else (none)) else (none))
def names_Match.l1 : Nat → ByteArray → ByteArray → List Bool → List Bool → Int → Int → Int → Int → Int → Option (Bool)
 | 0, _, _, _, _, _, _, _, _, _ => none
 | k + 1, x0, x1, x5, x7, x8, x17, x18, x29, x30 => if x30 < x29 then (if x8 = 42 then (names_Match.j2 k x0 x1 x5 x7 x8 x30 x17 x18 x29 x30 true) else (names_Match.j2 k x0 x1 x5 x7 x8 x30 x17 x18 x29 x30 (x8 == 37))) else (names_Match.l0 k x0 x1 x7 x17 (wrap64 (x18 + 1)))
def names_Match.j2 : Nat → ByteArray → ByteArray → List Bool → List Bool → Int → Int → Int → Int → Int → Int → Bool → Option (Bool)
 | 0, _, _, _, _, _, _, _, _, _, _, _ => none
 | k + 1, x0, x1, x5, x7, x8, x9, x17, x18, x29, x30, x33 => if x33 = true then (if 0 ≤ x9 then (if x9 < (x5.length : Int) then (if rdOf false x5 x9 = true then (if x9 < (x7.length : Int) then (names_Match.l1 k x0 x1 x5 (x7.set (x9 : Int).toNat true) x8 x17 x18 x29 (wrap64 (x30 + 1))) else (none)) else (if x9 > 0 then (if 0 ≤ (wrap64 (x9 - 1)) then (if (wrap64 (x9 - 1)) < (x7.length : Int) then (if rdOf false x7 (wrap64 (x9 - 1)) = true then (if x8 = 42 then (if x9 < (x7.length : Int) then (names_Match.l1 k x0 x1 x5 (x7.set (x9 : Int).toNat true) x8 x17 x18 x29 (wrap64 (x30 + 1))) else (none)) else (if (wrap64 (x9 - 1)) < (x1.size : Int) then (if x9 < (x7.length : Int) then (names_Match.l1 k x0 x1 x5 (x7.set (x9 : Int).toNat ((bt x1 (wrap64 (x9 - 1))) != 47)) x8 x17 x18 x29 (wrap64 (x30 + 1))) else (none)) else (none))) else (if x9 < (x7.length : Int) then (names_Match.l1 k x0 x1 x5 (x7.set (x9 : Int).toNat false) x8 x17 x18 x29 (wrap64 (x30 + 1))) else (none))) else (none)) else (none)) else (if x9 < (x7.length : Int) then (names_Match.l1 k x0 x1 x5 (x7.set (x9 : Int).toNat false) x8 x17 x18 x29 (wrap64 (x30 + 1))) else (none)))) else (none)) else (none)) else (if x9 > 0 then (if 0 ≤ (wrap64 (x9 - 1)) then (if (wrap64 (x9 - 1)) < (x5.length : Int) then (if rdOf false x5 (wrap64 (x9 - 1)) = true then (if (wrap64 (x9 - 1)) < (x1.size : Int) then (if 0 ≤ x9 then (if x9 < (x7.length : Int) then (names_Match.l1 k x0 x1 x5 (x7.set (x9 : Int).toNat ((bt x1 (wrap64 (x9 - 1))) == x8)) x8 x17 x18 x29 (wrap64 (x30 + 1))) else (none)) else (none)) else (none)) else (if 0 ≤ x9 then (if x9 < (x7.length : Int) then (names_Match.l1 k x0 x1 x5 (x7.set (x9 : Int).toNat false) x8 x17 x18 x29 (wrap64 (x30 + 1))) else (none)) else (none))) else (none)) else (none)) else (names_Match.l1 k x0 x1 x5 x7 x8 x17 x18 x29 (wrap64 (x30 + 1))))
end
def names_Match.f (k : Nat) (a0 : ByteArray) (a1 : ByteArray) : Option (Bool) := if 0 ≤ (wrap64 ((a1.size : Int) + 1)) then (if (wrap64 ((a1.size : Int) + 1) : Int).toNat ≤ 281474976710656 then ((some (List.replicate (wrap64 ((a1.size : Int) + 1) : Int).toNat false : List Bool)).bind fun y104 => (if 0 < (y104.length : Int) then (names_Match.l0 k a0 a1 (y104.set (0 : Int).toNat true) (a0.size : Int) 0) else (none))) else (none)) else (none)
theorem names_Match.mono_l : ∀ k, (∀ y0 y1 y2 y3 y4, LeO (names_Match.l0 k y0 y1 y2 y3 y4) (names_Match.l0 (k + 1) y0 y1 y2 y3 y4)) ∧ (∀ y0 y1 y2 y3 y4 y5 y6 y7 y8, LeO (names_Match.l1 k y0 y1 y2 y3 y4 y5 y6 y7 y8) (names_Match.l1 (k + 1) y0 y1 y2 y3 y4 y5 y6 y7 y8)) ∧ (∀ y0 y1 y2 y3 y4 y5 y6 y7 y8 y9 y10, LeO (names_Match.j2 k y0 y1 y2 y3 y4 y5 y6 y7 y8 y9 y10) (names_Match.j2 (k + 1) y0 y1 y2 y3 y4 y5 y6 y7 y8 y9 y10))
 | 0 => ⟨fun _ _ _ _ _ r h => by simp [names_Match.l0] at h, fun _ _ _ _ _ _ _ _ _ r h => by simp [names_Match.l1] at h, fun _ _ _ _ _ _ _ _ _ _ _ r h => by simp [names_Match.j2] at h⟩
 | k + 1 => by
  obtain ⟨ih0, ih1, ih2⟩ := names_Match.mono_l k
  refine ⟨?_, ?_, ?_⟩
  ·
   intro y0 y1 y2 y3 y4
   unfold names_Match.l0
   repeat' first
   | (with_reducible exact ih0 _ _ _ _ _)
   | (with_reducible exact ih1 _ _ _ _ _ _ _ _ _)
   | (with_reducible exact ih2 _ _ _ _ _ _ _ _ _ _ _)
   | (with_reducible exact LeO.refl _)
   | (with_reducible exact LeO.none _)
   | (with_reducible refine LeO.ite ?_ ?_)
   | (with_reducible refine LeO.bind ?_ (fun _ => ?_))
   | exact ih0 _ _ _ _ _
   | exact ih1 _ _ _ _ _ _ _ _ _
   | exact ih2 _ _ _ _ _ _ _ _ _ _ _
   | exact LeO.none _
   | refine LeO.ite ?_ ?_
   | refine LeO.bind ?_ (fun _ => ?_)
  ·
   intro y0 y1 y2 y3 y4 y5 y6 y7 y8
   unfold names_Match.l1
   repeat' first
   | (with_reducible exact ih0 _ _ _ _ _)
   | (with_reducible exact ih1 _ _ _ _ _ _ _ _ _)
   | (with_reducible exact ih2 _ _ _ _ _ _ _ _ _ _ _)
   | (with_reducible exact LeO.refl _)
   | (with_reducible exact LeO.none _)
   | (with_reducible refine LeO.ite ?_ ?_)
   | (with_reducible refine LeO.bind ?_ (fun _ => ?_))
   | exact ih0 _ _ _ _ _
   | exact ih1 _ _ _ _ _ _ _ _ _
   | exact ih2 _ _ _ _ _ _ _ _ _ _ _
   | exact LeO.none _
   | refine LeO.ite ?_ ?_
   | refine LeO.bind ?_ (fun _ => ?_)
  ·
   intro y0 y1 y2 y3 y4 y5 y6 y7 y8 y9 y10
   unfold names_Match.j2
   repeat' first
   | (with_reducible exact ih0 _ _ _ _ _)
   | (with_reducible exact ih1 _ _ _ _ _ _ _ _ _)
   | (with_reducible exact ih2 _ _ _ _ _ _ _ _ _ _ _)
   | (with_reducible exact LeO.refl _)
   | (with_reducible exact LeO.none _)
   | (with_reducible refine LeO.ite ?_ ?_)
   | (with_reducible refine LeO.bind ?_ (fun _ => ?_))
   | exact ih0 _ _ _ _ _
   | exact ih1 _ _ _ _ _ _ _ _ _
   | exact ih2 _ _ _ _ _ _ _ _ _ _ _
   | exact LeO.none _
   | refine LeO.ite ?_ ?_
   | refine LeO.bind ?_ (fun _ => ?_)
theorem names_Match.mono : ∀ a0 a1 k, LeO (names_Match.f k a0 a1) (names_Match.f (k + 1) a0 a1) := by
 intro a0 a1 k
 obtain ⟨ih0, ih1, ih2⟩ := names_Match.mono_l k
 unfold names_Match.f
 repeat' first
   | (with_reducible exact ih0 _ _ _ _ _)
   | (with_reducible exact ih1 _ _ _ _ _ _ _ _ _)
   | (with_reducible exact ih2 _ _ _ _ _ _ _ _ _ _ _)
   | (with_reducible exact LeO.refl _)
   | (with_reducible exact LeO.none _)
   | (with_reducible refine LeO.ite ?_ ?_)
   | (with_reducible refine LeO.bind ?_ (fun _ => ?_))
   | exact ih0 _ _ _ _ _
   | exact ih1 _ _ _ _ _ _ _ _ _
   | exact ih2 _ _ _ _ _ _ _ _ _ _ _
   | exact LeO.none _
   | refine LeO.ite ?_ ?_
   | refine LeO.bind ?_ (fun _ => ?_)
set_option maxHeartbeats 8000000 in
set_option maxRecDepth 100000 in
theorem names_Match.calls (k : Nat) (a0 : ByteArray) (a1 : ByteArray) (r : Bool) (w : World) (h : names_Match.f k a0 a1 = some r) :
  Calls Tryd.prog 18 #[.string a0, .string a1] w fun e w' => e = .returned (.bool r) ∧ Below w.heap.size w w' := by
 have HB := Aside0.mk (Below.refl w.heap.size w)
 have H : (if 0 ≤ (wrap64 ((a1.size : Int) + 1)) then (if (wrap64 ((a1.size : Int) + 1) : Int).toNat ≤ 281474976710656 then ((some (List.replicate (wrap64 ((a1.size : Int) + 1) : Int).toNat false : List Bool)).bind fun y104 => (if 0 < (y104.length : Int) then (names_Match.l0 k a0 a1 (y104.set (0 : Int).toNat true) (a0.size : Int) 0) else (none))) else (none)) else (none)) = some r := h
 clear h
 obtain ⟨ji3, hji3⟩ : ∃ j_ : Int, (wrap64 ((a1.size : Int) + 1)) = j_ := ⟨_, rfl⟩
 replace H : (if 0 ≤ (ji3) then (if (ji3 : Int).toNat ≤ 281474976710656 then ((some (List.replicate (ji3 : Int).toNat false : List Bool)).bind fun y104 => (if 0 < (y104.length : Int) then (names_Match.l0 k a0 a1 (y104.set (0 : Int).toNat true) (a0.size : Int) 0) else (none))) else (none)) else (none)) = some r := by first | (rw [hji3] at H; exact H) | (simp only [hji3] at H ⊢; exact H)
 have hji3w : (IntKind.i64.wrap ((a1.size : Int) + 1)) = ji3 := (i64_w _).trans hji3
 by_cases c4 : 0 ≤ (ji3)
 ·
  rw [if_pos c4] at H
  have c4b0 := eq_true c4
  have c4b1 : decide (0 ≤ (ji3)) = true := decide_eq_true c4
  clear c4
  by_cases c5 : (ji3 : Int).toNat ≤ 281474976710656
  ·
   rw [if_pos c5] at H
   have c5b0 := eq_true c5
   have c5b1 : decide ((ji3 : Int).toNat ≤ 281474976710656) = true := decide_eq_true c5
   clear c5
   obtain ⟨y104, hy104⟩ : ∃ y_ : List Bool, y_ = (List.replicate (ji3 : Int).toNat false) := ⟨_, rfl⟩
   replace H : (if 0 < (y104.length : Int) then (names_Match.l0 k a0 a1 (y104.set (0 : Int).toNat true) (a0.size : Int) 0) else (none)) = some r := by first | (rw [hy104]; with_reducible exact H) | (have H2_ := (Option.bind_some _ _).symm.trans H; rw [hy104]; with_reducible exact H2_) | (have H2_ := (Option.bind_some _ _).symm.trans H; with_reducible exact H2_) | with_reducible exact H | (rw [hy104]; exact H) | exact H
   have Ny104 := Aside0.mk hy104
   clear hy104
   by_cases c6 : 0 < (y104.length : Int)
   ·
    rw [if_pos c6] at H
    have c6b0 : decide (0 < (y104.length : Int)) = true := decide_eq_true c6
    have c6b1 : decide (0 < y104.length) = true := decide_eq_true (by omega)
    clear c6
    obtain ⟨y107, hy107⟩ : ∃ y_ : List Bool, y_ = (y104.set (0 : Int).toNat true) := ⟨_, rfl⟩
    replace H : (names_Match.l0 k a0 a1 y107 (a0.size : Int) 0) = some r := by first | (rw [hy107]; with_reducible exact H) | (have H2_ := (Option.bind_some _ _).symm.trans H; rw [hy107]; with_reducible exact H2_) | (have H2_ := (Option.bind_some _ _).symm.trans H; with_reducible exact H2_) | with_reducible exact H | (rw [hy107]; exact H) | exact H
    have Ny107 := Aside0.mk hy107
    clear hy107
    have H' := Aside0.mk H
    clear H
    go_enter Tryd.func18, Tryd.ntmps18
    go_wp2_with (first | ((with_reducible refine gate_dst (N := 13) rfl ?_); refine Kd.R_make Kd.bool _ 4 rfl (N := 13) rfl 68 _ _ rfl ji3 rfl rfl Tryd.underlying68 (.bool false) 1 info4 rfl (by decide) (by omega) false (ok := fun _ => True) (okp := fun _ => True) rfl (fun _ hk => hk) trivial (of_decide_eq_true (by first | (with_reducible assumption) | assumption)) (Nat.le_trans (Nat.mul_le_mul_right _ (of_decide_eq_true (by first | (with_reducible assumption) | assumption) : ji3.toNat ≤ 281474976710656)) (by omega)) (Below.refl _ _) (Nat.le_refl _) ?_; intro v105 w8 ho9 hb hg_ hnew_; clear hg_ hnew_; (first | rw [← Ny104.out] at ho9 | (simp only [Int.reduceToNat] at ho9; rw [← Ny104.out] at ho9)); have n0_ := Aside0.mk (Kd.R_lower ho9 (below_size (by repeat (first | (with_reducible first | exact HB.out | apply below_alloc | apply pw_below_drewN | apply below_drew1) | exact HB.out)))); have n1_ := Aside0.mk (below_step (by repeat (first | (with_reducible first | exact HB.out | apply below_alloc | apply pw_below_drewN | apply below_drew1) | exact HB.out)) hb); clear HB; have HO106 := n0_; have HB := n1_; clear n0_ n1_; clear hb ho9; have p7 : 0 ≤ (0 : Int) := (by omega); have q7 : (0 : Int) < ((y104.length : Int) : Int) := of_decide_eq_true (by first | (with_reducible assumption) | assumption); have qi7 : (0 < y104.length) = True := eq_true (by omega); obtain ⟨go7, co7, eo7, gb7, gl7, cl7, HG7⟩ := Kd.R_form HO106.out (by omega); (first | cases eo7 | (injection eo7 with ea_ en_ ec_; (first | subst ea_ | (injection ea_ with ea_; subst ea_)); subst ec_; clear en_)); have GB7 := Aside0.mk gb7; have GG7 := Aside0.mk HG7; clear gb7 gl7 HG7; obtain ⟨hx7_0, hf7_0⟩ := Kd.R_celln false HO106.out (0 : Int) p7 q7; (try rw [show ((0 : Int)).toNat = 0 from rfl] at hx7_0); (try simp only [Nat.reduceMul, Nat.zero_mul, Nat.zero_add, Nat.reduceAdd] at hx7_0); (try rw [show ((0 : Int)).toNat = 0 from rfl] at hf7_0); (try simp only [Nat.reduceMul, Nat.zero_mul, Nat.zero_add, Nat.reduceAdd] at hf7_0); replace p7 := eq_true p7; replace q7 := eq_true q7; obtain ⟨hy10_, hz10_⟩ := Kd.R_celln false HO106.out (0 : Int) (by omega) (of_decide_eq_true (by first | (with_reducible assumption) | assumption)); (try simp only [Int.reduceToNat, Int.toNat_zero, Int.toNat_ofNat, Nat.reduceMul, Nat.zero_mul, Nat.zero_add] at hy10_ hz10_); (try rw [show ((0 : Int)).toNat = 0 from rfl] at hy10_); (try rw [show ((0 : Int)).toNat = 0 from rfl] at hz10_); have HP10 := Kd.R_putg HO106.out (0 : Int) true) | ((with_reducible refine gate_store (t := 4) (p := 15) rfl ?_); refine store_event (t := 4) (p := 15) (v := ?vo_w11) (w1 := (w8.setCell ⟨go7, (0 : Int).toNat, none⟩ (.bool true))) ?hg ?ho ?hn ?hr ?_; (case ho => rfl); (case hg => rfl); (case hn => rfl); (case hr => first | (go_simp; done) | (go_simp; rfl)); intro w11 hw; have hg : w8.grownBy w11 (some go7) := (by rw [hw]; exact HP10.2); have hp_ : Kd.R Kd.bool 4 w11 w.heap.size (fun _ => True) (.slice (some ⟨go7, 0, none⟩) y104.length co7) y107 := (by rw [hw, Ny107.out]; exact HP10.1); clear HP10; have n0_ := Aside0.mk (hp_); have n1_ := Aside0.mk ((by rw [hw]; exact below_set (HB.out) GB7.out : Below w.heap.size w w11)); clear HO106; clear HB; have HO106 := n0_; have HB := n1_; clear n0_ n1_; clear hg hw hp_))
    go_loopg [5, 18] k (fun kq v5 v18 w' => ∃ (x5_1 : List Bool) (x18_1 : Int), v18 = .int .i64 x18_1 ∧ Aside0 (names_Match.l0 kq a0 a1 x5_1 (a0.size : Int) x18_1 = some r) ∧ Aside0 (kq ≤ k) ∧ Aside0 (Kd.R Kd.bool 4 w' w.heap.size (fun _ => True) v5 x5_1) ∧ Aside0 (Below w.heap.size w w'))
    case atStart => exact ⟨(y107), (0), (by first | with_reducible rfl | (simp only [pps, Nat.reduceAdd, Int.toNat_natCast]; done) | rfl | (simp; done) | (simp [*]; done)), H', ⟨Nat.le_refl _⟩, ⟨by (with_reducible repeat (first | apply Kd.R_alloc | apply Kd.R_drewN | apply Kd.R_drew)); exact HO106.out⟩, ⟨by repeat (first | (with_reducible first | exact HB.out | apply below_alloc | apply pw_below_drewN | apply below_drew1) | exact HB.out)⟩⟩
    case round =>
     clear H'
     try clear c1
     try clear p2
     try clear c4
     try clear c4b0
     try clear c4b1
     try clear c5
     try clear c5b0
     try clear c5b1
     try clear c6
     try clear c6b0
     try clear c6b1
     try clear p6
     try clear p7
     try clear q7
     try clear hx7
     try clear qi7
     try clear hf7
     try clear hx7_0
     try clear p7
     try clear q7
     obtain ⟨x5_1, x18_1, rfl, HA, HK1, HO_5, HB⟩ := hrel
     cases gk with
     | zero => exact absurd HA.out (by simp [names_Match.l0])
     | succ k1 =>
      have H := HA.out
      clear HA
      simp only [names_Match.l0] at H
      by_cases c12 : x18_1 < (a0.size : Int)
      ·
       rw [if_pos c12] at H
       have c12b0 : decide (x18_1 < (a0.size : Int)) = true := decide_eq_true c12
       clear c12
       replace H : (if 0 ≤ (ji3) then (if (ji3 : Int).toNat ≤ 281474976710656 then (if 0 ≤ x18_1 then (if x18_1 < (a0.size : Int) then (names_Match.l1 k1 a0 a1 x5_1 (List.replicate (ji3 : Int).toNat false) (bt a0 x18_1) (a0.size : Int) x18_1 (x5_1.length : Int) 0) else (none)) else (none)) else (none)) else (none)) = some r := by first | (rw [hji3] at H; exact H) | (simp only [hji3] at H ⊢; exact H)
       by_cases c14 : 0 ≤ (ji3)
       ·
        rw [if_pos c14] at H
        have c14b0 := eq_true c14
        have c14b1 : decide (0 ≤ (ji3)) = true := decide_eq_true c14
        clear c14
        by_cases c15 : (ji3 : Int).toNat ≤ 281474976710656
        ·
         rw [if_pos c15] at H
         have c15b0 := eq_true c15
         have c15b1 : decide ((ji3 : Int).toNat ≤ 281474976710656) = true := decide_eq_true c15
         clear c15
         obtain ⟨y109, hy109⟩ : ∃ y_ : List Bool, y_ = (List.replicate (ji3 : Int).toNat false) := ⟨_, rfl⟩
         replace H : (if 0 ≤ x18_1 then (if x18_1 < (a0.size : Int) then (names_Match.l1 k1 a0 a1 x5_1 y109 (bt a0 x18_1) (a0.size : Int) x18_1 (x5_1.length : Int) 0) else (none)) else (none)) = some r := by first | (rw [hy109]; with_reducible exact H) | (have H2_ := (Option.bind_some _ _).symm.trans H; rw [hy109]; with_reducible exact H2_) | (have H2_ := (Option.bind_some _ _).symm.trans H; with_reducible exact H2_) | with_reducible exact H | (rw [hy109]; exact H) | exact H
         have Ny109 := Aside0.mk hy109
         clear hy109
         by_cases c16 : 0 ≤ x18_1
         ·
          rw [if_pos c16] at H
          have c16b0 : decide (0 ≤ x18_1) = true := decide_eq_true c16
          clear c16
          by_cases c17 : x18_1 < (a0.size : Int)
          ·
           rw [if_pos c17] at H
           have c17b0 : decide (x18_1 < (a0.size : Int)) = true := decide_eq_true c17
           clear c17
           have H' := Aside0.mk H
           clear H
           go_wp2_with (first | ((with_reducible refine gate_dst (N := 24) rfl ?_); refine Kd.R_make Kd.bool _ 4 rfl (N := 24) rfl 68 _ _ rfl ji3 rfl rfl Tryd.underlying68 (.bool false) 1 info4 rfl (by decide) (by omega) false (ok := fun _ => True) (okp := fun _ => True) rfl (fun _ hk => hk) trivial (of_decide_eq_true (by first | (with_reducible assumption) | assumption)) (Nat.le_trans (Nat.mul_le_mul_right _ (of_decide_eq_true (by first | (with_reducible assumption) | assumption) : ji3.toNat ≤ 281474976710656)) (by omega)) (Below.refl _ _) (Nat.le_refl _) ?_; intro v110 w19 ho20 hb hg_ hnew_; clear hg_ hnew_; (first | rw [← Ny109.out] at ho20 | (simp only [Int.reduceToNat] at ho20; rw [← Ny109.out] at ho20)); have n0_ := Aside0.mk (Kd.R_elder' (by (with_reducible repeat (first | apply Kd.R_alloc | apply Kd.R_drewN | apply Kd.R_drew)); exact HO_5.out) (Kd.R_base ho20) hb); have n1_ := Aside0.mk (Kd.R_lower (Kd.R_new' ho20 (Kd.R_lt (by (with_reducible repeat (first | apply Kd.R_alloc | apply Kd.R_drewN | apply Kd.R_drew)); exact HO_5.out))) (below_size (by repeat (first | (with_reducible first | exact HB.out | apply below_alloc | apply pw_below_drewN | apply below_drew1) | exact HB.out)))); have n2_ := Aside0.mk (below_step (by repeat (first | (with_reducible first | exact HB.out | apply below_alloc | apply pw_below_drewN | apply below_drew1) | exact HB.out)) hb); clear HO_5; clear HB; have HO_5 := n0_; have HO111 := n1_; have HB := n2_; clear n0_ n1_ n2_; clear hb ho20; have p18 : 0 ≤ (x18_1 : Int) := of_decide_eq_true (by first | (with_reducible assumption) | assumption); have q18 : x18_1 < (a0.size : Int) := of_decide_eq_true (by first | (with_reducible assumption) | assumption); have hx18 := bt_at a0 x18_1; replace p18 := eq_true p18; replace q18 := eq_true q18; obtain ⟨Ao21, co21, eo21⟩ := Kd.R_slice HO_5.out; subst eo21))
           go_loopg [30] k1 (fun kq v30 w' => ∃ (x7_2 : List Bool) (x30_2 : Int), v30 = .int .i64 x30_2 ∧ Aside0 (names_Match.l1 kq a0 a1 x5_1 x7_2 (bt a0 x18_1) (a0.size : Int) x18_1 (x5_1.length : Int) x30_2 = some r) ∧ Aside0 (kq ≤ k1) ∧ Aside0 (Kd.R Kd.bool 4 w' w.heap.size (fun k_ => some k_ ≠ (v110 : Value).ownBlock) (.slice Ao21 x5_1.length co21) x5_1) ∧ Aside0 (Kd.R Kd.bool 4 w' w.heap.size (fun k_ => some k_ ≠ ((.slice Ao21 x5_1.length co21) : Value).ownBlock) v110 x7_2) ∧ Aside0 (Below w.heap.size w w'))
           case atStart => exact ⟨(y109), (0), (by first | with_reducible rfl | (simp only [pps, Nat.reduceAdd, Int.toNat_natCast]; done) | rfl | (simp; done) | (simp [*]; done)), H', ⟨Nat.le_refl _⟩, ⟨by (with_reducible repeat (first | apply Kd.R_alloc | apply Kd.R_drewN | apply Kd.R_drew)); exact Kd.R_mono HO_5.out (fun _ hk => hk.2)⟩, ⟨by (with_reducible repeat (first | apply Kd.R_alloc | apply Kd.R_drewN | apply Kd.R_drew)); exact Kd.R_mono HO111.out (fun _ hk => hk.2)⟩, ⟨by repeat (first | (with_reducible first | exact HB.out | apply below_alloc | apply pw_below_drewN | apply below_drew1) | exact HB.out)⟩⟩
           case round =>
            clear H'
            try clear c1
            try clear p1
            try clear q1
            try clear hx1
            try clear p2
            try clear c4
            try clear c4b0
            try clear c4b1
            try clear c5
            try clear c5b0
            try clear c5b1
            try clear c6
            try clear c6b0
            try clear c6b1
            try clear p6
            try clear p7
            try clear q7
            try clear hx7
            try clear qi7
            try clear hf7
            try clear c12
            try clear c12b0
            try clear c14
            try clear c14b0
            try clear c14b1
            try clear c15
            try clear c15b0
            try clear c15b1
            try clear c16
            try clear c16b0
            try clear c17
            try clear c17b0
            try clear c18
            try clear p18
            try clear q18
            try clear hx18
            try clear hx7_0
            try clear p18
            try clear p2
            try clear p6
            try clear p7
            try clear q18
            try clear q7
            obtain ⟨x7_2, x30_2, rfl, HA, HK2, HO_5, HO_7, HB⟩ := hrel
            cases gk with
            | zero => exact absurd HA.out (by simp [names_Match.l1])
            | succ k2 =>
             have H := HA.out
             clear HA
             simp only [names_Match.l1] at H
             by_cases c22 : x30_2 < (x5_1.length : Int)
             ·
              rw [if_pos c22] at H
              have c22b0 : decide (x30_2 < (x5_1.length : Int)) = true := decide_eq_true c22
              clear c22
              have HC23 := Aside0.mk H
              clear H
              go_upto_region 11 with (fail)
              go_cut [33] (fun v33 wc => ∃ (kq : Nat) (x33_22 : Bool), v33 = .bool x33_22 ∧ Aside0 (names_Match.j2 kq a0 a1 x5_1 x7_2 (bt a0 x18_1) x30_2 (a0.size : Int) x18_1 (x5_1.length : Int) x30_2 x33_22 = some r) ∧ Aside0 (kq ≤ k2) ∧ Aside0 (Kd.R Kd.bool 4 wc w.heap.size (fun k_ => some k_ ≠ (v110 : Value).ownBlock) (.slice Ao21 x5_1.length co21) x5_1) ∧ Aside0 (Kd.R Kd.bool 4 wc w.heap.size (fun k_ => some k_ ≠ ((.slice Ao21 x5_1.length co21) : Value).ownBlock) v110 x7_2) ∧ Aside0 (Below w.heap.size w wc))
              case first =>
               have H := HC23.out
               clear HC23
               by_cases c24 : (bt a0 x18_1) = 42
               ·
                rw [if_pos c24] at H
                have c24b0 : ((bt a0 x18_1) == 42) = true := beq_iff_eq.mpr c24
                have c24b1 : ((bt a0 x18_1) != 42) = false := bne_eq_false_iff_eq.mpr c24
                clear c24
                (first | rw [c24b0] | (simp only [i64_w, i32_w]; rw [c24b0]) | skip)
                have H' := Aside0.mk H
                clear H
                go_wp2
                go_meet
                case rel => exact ⟨_, (true), (by first | with_reducible rfl | (simp only [pps, Nat.reduceAdd, Int.toNat_natCast]; done) | rfl | (simp; done) | (simp [*]; done)), H', ⟨by have := HK1.out; have := HK2.out; first | omega | exact Nat.le_refl _⟩, ⟨by (with_reducible repeat (first | apply Kd.R_alloc | apply Kd.R_drewN | apply Kd.R_drew)); exact HO_5.out⟩, ⟨by (with_reducible repeat (first | apply Kd.R_alloc | apply Kd.R_drewN | apply Kd.R_drew)); exact HO_7.out⟩, ⟨by repeat (first | (with_reducible first | exact HB.out | apply below_alloc | apply pw_below_drewN | apply below_drew1) | exact HB.out)⟩⟩
               ·
                rw [if_neg c24] at H
                have c24b0 : ((bt a0 x18_1) == 42) = false := beq_eq_false_iff_ne.mpr c24
                have c24b1 : ((bt a0 x18_1) != 42) = true := bne_iff_ne.mpr c24
                (first | rw [c24b0] | (simp only [i64_w, i32_w]; rw [c24b0]) | skip)
                have H' := Aside0.mk H
                clear H
                go_wp2
                go_meet
                case rel => exact ⟨_, (((bt a0 x18_1) == 37)), (by first | with_reducible rfl | (simp only [pps, Nat.reduceAdd, Int.toNat_natCast]; done) | rfl | (simp; done) | (simp [*]; done)), H', ⟨by have := HK1.out; have := HK2.out; first | omega | exact Nat.le_refl _⟩, ⟨by (with_reducible repeat (first | apply Kd.R_alloc | apply Kd.R_drewN | apply Kd.R_drew)); exact HO_5.out⟩, ⟨by (with_reducible repeat (first | apply Kd.R_alloc | apply Kd.R_drewN | apply Kd.R_drew)); exact HO_7.out⟩, ⟨by repeat (first | (with_reducible first | exact HB.out | apply below_alloc | apply pw_below_drewN | apply below_drew1) | exact HB.out)⟩⟩
              case rest =>
               clear HC23
               try clear c1
               try clear p1
               try clear q1
               try clear hx1
               try clear c2
               try clear p2
               try clear c4
               try clear c4b0
               try clear c4b1
               try clear c5
               try clear c5b0
               try clear c5b1
               try clear c6
               try clear c6b0
               try clear c6b1
               try clear p6
               try clear p7
               try clear q7
               try clear hx7
               try clear qi7
               try clear hf7
               try clear c12
               try clear c12b0
               try clear c14
               try clear c14b0
               try clear c14b1
               try clear c15
               try clear c15b0
               try clear c15b1
               try clear c16
               try clear c16b0
               try clear c17
               try clear c17b0
               try clear c18
               try clear p18
               try clear q18
               try clear hx18
               try clear c22
               try clear c22b0
               try clear c24
               try clear c24b0
               try clear c24b1
               try clear hx7_0
               try clear p1
               try clear p18
               try clear p2
               try clear p6
               try clear p7
               try clear q1
               try clear q18
               try clear q7
               obtain ⟨kq, x33_22, rfl, HA, HJ22, HO_5, HO_7, HB⟩ := hcut
               cases kq with
               | zero => exact absurd HA.out (by simp [names_Match.j2])
               | succ kj22 =>
                have H := HA.out
                clear HA
                simp only [names_Match.j2] at H
                by_cases c25 : x33_22 = true
                ·
                 subst c25
                 have H1 : (if 0 ≤ x30_2 then (if x30_2 < (x5_1.length : Int) then (if rdOf false x5_1 x30_2 = true then (if x30_2 < (x7_2.length : Int) then (names_Match.l1 kj22 a0 a1 x5_1 (x7_2.set (x30_2 : Int).toNat true) (bt a0 x18_1) (a0.size : Int) x18_1 (x5_1.length : Int) (wrap64 (x30_2 + 1))) else (none)) else (if x30_2 > 0 then (if 0 ≤ (wrap64 (x30_2 - 1)) then (if (wrap64 (x30_2 - 1)) < (x7_2.length : Int) then (if rdOf false x7_2 (wrap64 (x30_2 - 1)) = true then (if (bt a0 x18_1) = 42 then (if x30_2 < (x7_2.length : Int) then (names_Match.l1 kj22 a0 a1 x5_1 (x7_2.set (x30_2 : Int).toNat true) (bt a0 x18_1) (a0.size : Int) x18_1 (x5_1.length : Int) (wrap64 (x30_2 + 1))) else (none)) else (if (wrap64 (x30_2 - 1)) < (a1.size : Int) then (if x30_2 < (x7_2.length : Int) then (names_Match.l1 kj22 a0 a1 x5_1 (x7_2.set (x30_2 : Int).toNat ((bt a1 (wrap64 (x30_2 - 1))) != 47)) (bt a0 x18_1) (a0.size : Int) x18_1 (x5_1.length : Int) (wrap64 (x30_2 + 1))) else (none)) else (none))) else (if x30_2 < (x7_2.length : Int) then (names_Match.l1 kj22 a0 a1 x5_1 (x7_2.set (x30_2 : Int).toNat false) (bt a0 x18_1) (a0.size : Int) x18_1 (x5_1.length : Int) (wrap64 (x30_2 + 1))) else (none))) else (none)) else (none)) else (if x30_2 < (x7_2.length : Int) then (names_Match.l1 kj22 a0 a1 x5_1 (x7_2.set (x30_2 : Int).toNat false) (bt a0 x18_1) (a0.size : Int) x18_1 (x5_1.length : Int) (wrap64 (x30_2 + 1))) else (none)))) else (none)) else (none)) = some r := by rw [if_pos rfl] at H; exact H
                 clear H
                 have H := H1
                 clear H1
                 by_cases c26 : 0 ≤ x30_2
                 ·
                  rw [if_pos c26] at H
                  have c26b0 : decide (0 ≤ x30_2) = true := decide_eq_true c26
                  clear c26
                  by_cases c27 : x30_2 < (x5_1.length : Int)
                  ·
                   rw [if_pos c27] at H
                   have c27b0 : decide (x30_2 < (x5_1.length : Int)) = true := decide_eq_true c27
                   clear c27
                   obtain ⟨bq28, hbq28⟩ : ∃ b_ : Bool, b_ = (rdOf false x5_1 x30_2) := ⟨_, rfl⟩
                   replace H : (if bq28 = true then (if x30_2 < (x7_2.length : Int) then (names_Match.l1 kj22 a0 a1 x5_1 (x7_2.set (x30_2 : Int).toNat true) (bt a0 x18_1) (a0.size : Int) x18_1 (x5_1.length : Int) (wrap64 (x30_2 + 1))) else (none)) else (if x30_2 > 0 then (if 0 ≤ (wrap64 (x30_2 - 1)) then (if (wrap64 (x30_2 - 1)) < (x7_2.length : Int) then (if rdOf false x7_2 (wrap64 (x30_2 - 1)) = true then (if (bt a0 x18_1) = 42 then (if x30_2 < (x7_2.length : Int) then (names_Match.l1 kj22 a0 a1 x5_1 (x7_2.set (x30_2 : Int).toNat true) (bt a0 x18_1) (a0.size : Int) x18_1 (x5_1.length : Int) (wrap64 (x30_2 + 1))) else (none)) else (if (wrap64 (x30_2 - 1)) < (a1.size : Int) then (if x30_2 < (x7_2.length : Int) then (names_Match.l1 kj22 a0 a1 x5_1 (x7_2.set (x30_2 : Int).toNat ((bt a1 (wrap64 (x30_2 - 1))) != 47)) (bt a0 x18_1) (a0.size : Int) x18_1 (x5_1.length : Int) (wrap64 (x30_2 + 1))) else (none)) else (none))) else (if x30_2 < (x7_2.length : Int) then (names_Match.l1 kj22 a0 a1 x5_1 (x7_2.set (x30_2 : Int).toNat false) (bt a0 x18_1) (a0.size : Int) x18_1 (x5_1.length : Int) (wrap64 (x30_2 + 1))) else (none))) else (none)) else (none)) else (if x30_2 < (x7_2.length : Int) then (names_Match.l1 kj22 a0 a1 x5_1 (x7_2.set (x30_2 : Int).toNat false) (bt a0 x18_1) (a0.size : Int) x18_1 (x5_1.length : Int) (wrap64 (x30_2 + 1))) else (none)))) = some r := by rw [← hbq28] at H; exact H
                   have Nbq28 := Aside0.mk hbq28
                   clear hbq28
                   by_cases c29 : bq28 = true
                   ·
                    subst c29
                    have H1 : (if x30_2 < (x7_2.length : Int) then (names_Match.l1 kj22 a0 a1 x5_1 (x7_2.set (x30_2 : Int).toNat true) (bt a0 x18_1) (a0.size : Int) x18_1 (x5_1.length : Int) (wrap64 (x30_2 + 1))) else (none)) = some r := by rw [if_pos rfl] at H; exact H
                    clear H
                    have H := H1
                    clear H1
                    by_cases c30 : x30_2 < (x7_2.length : Int)
                    ·
                     rw [if_pos c30] at H
                     have c30b0 : decide (x30_2 < (x7_2.length : Int)) = true := decide_eq_true c30
                     clear c30
                     obtain ⟨y113, hy113⟩ : ∃ y_ : List Bool, y_ = (x7_2.set (x30_2 : Int).toNat true) := ⟨_, rfl⟩
                     replace H : (names_Match.l1 kj22 a0 a1 x5_1 y113 (bt a0 x18_1) (a0.size : Int) x18_1 (x5_1.length : Int) (wrap64 (x30_2 + 1))) = some r := by first | (rw [hy113]; with_reducible exact H) | (have H2_ := (Option.bind_some _ _).symm.trans H; rw [hy113]; with_reducible exact H2_) | (have H2_ := (Option.bind_some _ _).symm.trans H; with_reducible exact H2_) | with_reducible exact H | (rw [hy113]; exact H) | exact H
                     have Ny113 := Aside0.mk hy113
                     clear hy113
                     have H' := Aside0.mk H
                     clear H
                     have p112 : 0 ≤ (x30_2 : Int) := of_decide_eq_true (by first | (with_reducible assumption) | assumption)
                     have q112 : x30_2 < (x5_1.length : Int) := of_decide_eq_true (by first | (with_reducible assumption) | assumption)
                     obtain ⟨ad112, e112, hx112_0⟩ := Kd.at_bool (Kd.R_reads' HO_5.out).2.2 x30_2 p112 q112
                     (try rw [← Nbq28.out] at hx112_0)
                     cases e112
                     replace p112 := eq_true p112
                     replace q112 := eq_true q112
                     have p31 : 0 ≤ (x30_2 : Int) := of_decide_eq_true (by first | (with_reducible assumption) | assumption)
                     have q31 : (x30_2 : Int) < ((x7_2.length : Int) : Int) := of_decide_eq_true (by first | (with_reducible assumption) | assumption)
                     obtain ⟨go31, co31, eo31, gb31, gl31, cl31, HG31⟩ := Kd.R_form HO_7.out (by omega)
                     (first | cases eo31 | (injection eo31 with ea_ en_ ec_; (first | subst ea_ | (injection ea_ with ea_; subst ea_)); subst ec_; clear en_))
                     have GB31 := Aside0.mk gb31
                     have GG31 := Aside0.mk HG31
                     clear gb31 gl31 HG31
                     obtain ⟨hx31_0, hf31_0⟩ := Kd.R_celln false HO_7.out (x30_2 : Int) p31 q31
                     replace p31 := eq_true p31
                     replace q31 := eq_true q31
                     have HP32 := Kd.R_putg HO_7.out (x30_2 : Int) true
                     go_wp2_with (first | ((with_reducible refine gate_store (t := 4) (p := 68) rfl ?_); refine store_event (t := 4) (p := 68) (v := ?vo_w33) (w1 := (wc.setCell ⟨go31, (x30_2 : Int).toNat, none⟩ (.bool true))) ?hg ?ho ?hn ?hr ?_; (case ho => rfl); (case hg => rfl); (case hn => rfl); (case hr => first | (go_simp; done) | (go_simp; rfl)); intro w33 hw; have hg : wc.grownBy w33 (some go31) := (by rw [hw]; exact HP32.2); have hp_ : Kd.R Kd.bool 4 w33 w.heap.size (fun k_ => some k_ ≠ (.slice (some ad112) x5_1.length co21 : Value).ownBlock) (.slice (some ⟨go31, 0, none⟩) x7_2.length co31) y113 := (by rw [hw, Ny113.out]; exact HP32.1); clear HP32; have n0_ := Aside0.mk (Kd.R_after (v := (.slice (some ⟨go31, 0, none⟩) x7_2.length co31)) (v1 := (.slice (some ⟨go31, 0, none⟩) x7_2.length co31)) (ok := (fun _ => True)) (by (with_reducible repeat (first | apply Kd.R_alloc | apply Kd.R_drewN | apply Kd.R_drew)); exact Kd.R_mono HO_5.out (fun _ hk => ⟨trivial, hk⟩)) hg (.inl rfl)); have n1_ := Aside0.mk (hp_); have n2_ := Aside0.mk ((by rw [hw]; exact below_set (HB.out) GB31.out : Below w.heap.size w w33)); clear HO_5; clear HO_7; clear HB; have HO_5 := n0_; have HO_7 := n1_; have HB := n2_; clear n0_ n1_ n2_; clear hg hw hp_))
                     go_roundg kj22
                     case measure => have := HK1.out; have := HK2.out; have := HJ22.out; omega
                     case rel => exact ⟨(y113), (wrap64 (x30_2 + 1)), (by first | with_reducible rfl | (simp only [pps, Nat.reduceAdd, Int.toNat_natCast]; done) | rfl | (simp; done) | (simp [*]; done)), H', ⟨by have := HK1.out; have := HK2.out; have := HJ22.out; omega⟩, ⟨by (with_reducible repeat (first | apply Kd.R_alloc | apply Kd.R_drewN | apply Kd.R_drew)); exact Kd.R_mono HO_5.out (fun _ hk => hk.2)⟩, ⟨by (with_reducible repeat (first | apply Kd.R_alloc | apply Kd.R_drewN | apply Kd.R_drew)); exact HO_7.out⟩, ⟨by repeat (first | (with_reducible first | exact HB.out | apply below_alloc | apply pw_below_drewN | apply below_drew1) | exact HB.out)⟩⟩
                    ·
                     rw [if_neg c30] at H
                     exact absurd H (by simp)
                   ·
                    replace c29 := Bool.eq_false_iff.mpr c29
                    subst c29
                    have H1 : (if x30_2 > 0 then (if 0 ≤ (wrap64 (x30_2 - 1)) then (if (wrap64 (x30_2 - 1)) < (x7_2.length : Int) then (if rdOf false x7_2 (wrap64 (x30_2 - 1)) = true then (if (bt a0 x18_1) = 42 then (if x30_2 < (x7_2.length : Int) then (names_Match.l1 kj22 a0 a1 x5_1 (x7_2.set (x30_2 : Int).toNat true) (bt a0 x18_1) (a0.size : Int) x18_1 (x5_1.length : Int) (wrap64 (x30_2 + 1))) else (none)) else (if (wrap64 (x30_2 - 1)) < (a1.size : Int) then (if x30_2 < (x7_2.length : Int) then (names_Match.l1 kj22 a0 a1 x5_1 (x7_2.set (x30_2 : Int).toNat ((bt a1 (wrap64 (x30_2 - 1))) != 47)) (bt a0 x18_1) (a0.size : Int) x18_1 (x5_1.length : Int) (wrap64 (x30_2 + 1))) else (none)) else (none))) else (if x30_2 < (x7_2.length : Int) then (names_Match.l1 kj22 a0 a1 x5_1 (x7_2.set (x30_2 : Int).toNat false) (bt a0 x18_1) (a0.size : Int) x18_1 (x5_1.length : Int) (wrap64 (x30_2 + 1))) else (none))) else (none)) else (none)) else (if x30_2 < (x7_2.length : Int) then (names_Match.l1 kj22 a0 a1 x5_1 (x7_2.set (x30_2 : Int).toNat false) (bt a0 x18_1) (a0.size : Int) x18_1 (x5_1.length : Int) (wrap64 (x30_2 + 1))) else (none))) = some r := by rw [if_neg (show ¬ (false = true) by decide)] at H; exact H
                    clear H
                    have H := H1
                    clear H1
                    by_cases c34 : x30_2 > 0
                    ·
                     rw [if_pos c34] at H
                     have c34b0 : decide (0 < x30_2) = true := decide_eq_true c34
                     clear c34
                     obtain ⟨ji35, hji35⟩ : ∃ j_ : Int, (wrap64 (x30_2 - 1)) = j_ := ⟨_, rfl⟩
                     replace H : (if 0 ≤ (ji35) then (if (ji35) < (x7_2.length : Int) then (if rdOf false x7_2 (ji35) = true then (if (bt a0 x18_1) = 42 then (if x30_2 < (x7_2.length : Int) then (names_Match.l1 kj22 a0 a1 x5_1 (x7_2.set (x30_2 : Int).toNat true) (bt a0 x18_1) (a0.size : Int) x18_1 (x5_1.length : Int) (wrap64 (x30_2 + 1))) else (none)) else (if (ji35) < (a1.size : Int) then (if x30_2 < (x7_2.length : Int) then (names_Match.l1 kj22 a0 a1 x5_1 (x7_2.set (x30_2 : Int).toNat ((bt a1 (ji35)) != 47)) (bt a0 x18_1) (a0.size : Int) x18_1 (x5_1.length : Int) (wrap64 (x30_2 + 1))) else (none)) else (none))) else (if x30_2 < (x7_2.length : Int) then (names_Match.l1 kj22 a0 a1 x5_1 (x7_2.set (x30_2 : Int).toNat false) (bt a0 x18_1) (a0.size : Int) x18_1 (x5_1.length : Int) (wrap64 (x30_2 + 1))) else (none))) else (none)) else (none)) = some r := by first | (rw [hji35] at H; exact H) | (simp only [hji35] at H ⊢; exact H)
                     have hji35w : (IntKind.i64.wrap (x30_2 - 1)) = ji35 := (i64_w _).trans hji35
                     by_cases c36 : 0 ≤ (ji35)
                     ·
                      rw [if_pos c36] at H
                      have c36b0 : decide (0 ≤ (ji35)) = true := decide_eq_true c36
                      clear c36
                      by_cases c37 : (ji35) < (x7_2.length : Int)
                      ·
                       rw [if_pos c37] at H
                       have c37b0 : decide ((ji35) < (x7_2.length : Int)) = true := decide_eq_true c37
                       clear c37
                       obtain ⟨bq38, hbq38⟩ : ∃ b_ : Bool, b_ = (rdOf false x7_2 (ji35)) := ⟨_, rfl⟩
                       replace H : (if bq38 = true then (if (bt a0 x18_1) = 42 then (if x30_2 < (x7_2.length : Int) then (names_Match.l1 kj22 a0 a1 x5_1 (x7_2.set (x30_2 : Int).toNat true) (bt a0 x18_1) (a0.size : Int) x18_1 (x5_1.length : Int) (wrap64 (x30_2 + 1))) else (none)) else (if (ji35) < (a1.size : Int) then (if x30_2 < (x7_2.length : Int) then (names_Match.l1 kj22 a0 a1 x5_1 (x7_2.set (x30_2 : Int).toNat ((bt a1 (ji35)) != 47)) (bt a0 x18_1) (a0.size : Int) x18_1 (x5_1.length : Int) (wrap64 (x30_2 + 1))) else (none)) else (none))) else (if x30_2 < (x7_2.length : Int) then (names_Match.l1 kj22 a0 a1 x5_1 (x7_2.set (x30_2 : Int).toNat false) (bt a0 x18_1) (a0.size : Int) x18_1 (x5_1.length : Int) (wrap64 (x30_2 + 1))) else (none))) = some r := by rw [← hbq38] at H; exact H
                       have Nbq38 := Aside0.mk hbq38
                       clear hbq38
                       by_cases c39 : bq38 = true
                       ·
                        subst c39
                        have H1 : (if (bt a0 x18_1) = 42 then (if x30_2 < (x7_2.length : Int) then (names_Match.l1 kj22 a0 a1 x5_1 (x7_2.set (x30_2 : Int).toNat true) (bt a0 x18_1) (a0.size : Int) x18_1 (x5_1.length : Int) (wrap64 (x30_2 + 1))) else (none)) else (if (ji35) < (a1.size : Int) then (if x30_2 < (x7_2.length : Int) then (names_Match.l1 kj22 a0 a1 x5_1 (x7_2.set (x30_2 : Int).toNat ((bt a1 (ji35)) != 47)) (bt a0 x18_1) (a0.size : Int) x18_1 (x5_1.length : Int) (wrap64 (x30_2 + 1))) else (none)) else (none))) = some r := by rw [if_pos rfl] at H; exact H
                        clear H
                        have H := H1
                        clear H1
                        by_cases c40 : (bt a0 x18_1) = 42
                        ·
                         rw [if_pos c40] at H
                         have c40b0 : ((bt a0 x18_1) == 42) = true := beq_iff_eq.mpr c40
                         have c40b1 : ((bt a0 x18_1) != 42) = false := bne_eq_false_iff_eq.mpr c40
                         clear c40
                         by_cases c41 : x30_2 < (x7_2.length : Int)
                         ·
                          rw [if_pos c41] at H
                          have c41b0 : decide (x30_2 < (x7_2.length : Int)) = true := decide_eq_true c41
                          clear c41
                          obtain ⟨y115, hy115⟩ : ∃ y_ : List Bool, y_ = (x7_2.set (x30_2 : Int).toNat true) := ⟨_, rfl⟩
                          replace H : (names_Match.l1 kj22 a0 a1 x5_1 y115 (bt a0 x18_1) (a0.size : Int) x18_1 (x5_1.length : Int) (wrap64 (x30_2 + 1))) = some r := by first | (rw [hy115]; with_reducible exact H) | (have H2_ := (Option.bind_some _ _).symm.trans H; rw [hy115]; with_reducible exact H2_) | (have H2_ := (Option.bind_some _ _).symm.trans H; with_reducible exact H2_) | with_reducible exact H | (rw [hy115]; exact H) | exact H
                          have Ny115 := Aside0.mk hy115
                          clear hy115
                          have H' := Aside0.mk H
                          clear H
                          have p112 : 0 ≤ (x30_2 : Int) := of_decide_eq_true (by first | (with_reducible assumption) | assumption)
                          have q112 : x30_2 < (x5_1.length : Int) := of_decide_eq_true (by first | (with_reducible assumption) | assumption)
                          obtain ⟨ad112, e112, hx112_0⟩ := Kd.at_bool (Kd.R_reads' HO_5.out).2.2 x30_2 p112 q112
                          (try rw [← Nbq28.out] at hx112_0)
                          (try rw [← Nbq38.out] at hx112_0)
                          cases e112
                          replace p112 := eq_true p112
                          replace q112 := eq_true q112
                          obtain ⟨Ao43, co43, eo43⟩ := Kd.R_slice HO_7.out
                          subst eo43
                          have p114 : 0 ≤ ((ji35) : Int) := of_decide_eq_true (by first | (with_reducible assumption) | assumption)
                          have q114 : (ji35) < (x7_2.length : Int) := of_decide_eq_true (by first | (with_reducible assumption) | assumption)
                          obtain ⟨ad114, e114, hx114_0⟩ := Kd.at_bool (Kd.R_reads' HO_7.out).2.2 (ji35) p114 q114
                          (try rw [← Nbq28.out] at hx114_0)
                          (try rw [← Nbq38.out] at hx114_0)
                          cases e114
                          replace p114 := eq_true p114
                          replace q114 := eq_true q114
                          have p42 : 0 ≤ (x30_2 : Int) := of_decide_eq_true (by first | (with_reducible assumption) | assumption)
                          have q42 : (x30_2 : Int) < ((x7_2.length : Int) : Int) := of_decide_eq_true (by first | (with_reducible assumption) | assumption)
                          obtain ⟨go42, co42, eo42, gb42, gl42, cl42, HG42⟩ := Kd.R_form HO_7.out (by omega)
                          (first | cases eo42 | (injection eo42 with ea_ en_ ec_; (first | subst ea_ | (injection ea_ with ea_; subst ea_)); subst ec_; clear en_))
                          have GB42 := Aside0.mk gb42
                          have GG42 := Aside0.mk HG42
                          clear gb42 gl42 HG42
                          (first | simp only [add_plain] at hx114_0 | skip)
                          obtain ⟨hx42_0, hf42_0⟩ := Kd.R_celln false HO_7.out (x30_2 : Int) p42 q42
                          replace p42 := eq_true p42
                          replace q42 := eq_true q42
                          have HP44 := Kd.R_putg HO_7.out (x30_2 : Int) true
                          go_wp2_with (first | ((with_reducible refine gate_store (t := 4) (p := 68) rfl ?_); refine store_event (t := 4) (p := 68) (v := ?vo_w45) (w1 := (wc.setCell ⟨go42, (x30_2 : Int).toNat, none⟩ (.bool true))) ?hg ?ho ?hn ?hr ?_; (case ho => rfl); (case hg => rfl); (case hn => rfl); (case hr => first | (go_simp; done) | (go_simp; rfl)); intro w45 hw; have hg : wc.grownBy w45 (some go42) := (by rw [hw]; exact HP44.2); have hp_ : Kd.R Kd.bool 4 w45 w.heap.size (fun k_ => some k_ ≠ (.slice (some ad112) x5_1.length co21 : Value).ownBlock) (.slice (some ⟨go42, 0, none⟩) x7_2.length co43) y115 := (by rw [hw, Ny115.out]; exact HP44.1); clear HP44; have n0_ := Aside0.mk (Kd.R_after (v := (.slice (some ⟨go42, 0, none⟩) x7_2.length co43)) (v1 := (.slice (some ⟨go42, 0, none⟩) x7_2.length co43)) (ok := (fun _ => True)) (by (with_reducible repeat (first | apply Kd.R_alloc | apply Kd.R_drewN | apply Kd.R_drew)); exact Kd.R_mono HO_5.out (fun _ hk => ⟨trivial, hk⟩)) hg (.inl rfl)); have n1_ := Aside0.mk (hp_); have n2_ := Aside0.mk ((by rw [hw]; exact below_set (HB.out) GB42.out : Below w.heap.size w w45)); clear HO_5; clear HO_7; clear HB; have HO_5 := n0_; have HO_7 := n1_; have HB := n2_; clear n0_ n1_ n2_; clear hg hw hp_))
                          go_roundg kj22
                          case measure => have := HK1.out; have := HK2.out; have := HJ22.out; omega
                          case rel => exact ⟨(y115), (wrap64 (x30_2 + 1)), (by first | with_reducible rfl | (simp only [pps, Nat.reduceAdd, Int.toNat_natCast]; done) | rfl | (simp; done) | (simp [*]; done)), H', ⟨by have := HK1.out; have := HK2.out; have := HJ22.out; omega⟩, ⟨by (with_reducible repeat (first | apply Kd.R_alloc | apply Kd.R_drewN | apply Kd.R_drew)); exact Kd.R_mono HO_5.out (fun _ hk => hk.2)⟩, ⟨by (with_reducible repeat (first | apply Kd.R_alloc | apply Kd.R_drewN | apply Kd.R_drew)); exact HO_7.out⟩, ⟨by repeat (first | (with_reducible first | exact HB.out | apply below_alloc | apply pw_below_drewN | apply below_drew1) | exact HB.out)⟩⟩
                         ·
                          rw [if_neg c41] at H
                          exact absurd H (by simp)
                        ·
                         rw [if_neg c40] at H
                         have c40b0 : ((bt a0 x18_1) == 42) = false := beq_eq_false_iff_ne.mpr c40
                         have c40b1 : ((bt a0 x18_1) != 42) = true := bne_iff_ne.mpr c40
                         by_cases c46 : (ji35) < (a1.size : Int)
                         ·
                          rw [if_pos c46] at H
                          have c46b0 : decide ((ji35) < (a1.size : Int)) = true := decide_eq_true c46
                          clear c46
                          by_cases c48 : x30_2 < (x7_2.length : Int)
                          ·
                           rw [if_pos c48] at H
                           have c48b0 : decide (x30_2 < (x7_2.length : Int)) = true := decide_eq_true c48
                           clear c48
                           obtain ⟨y116, hy116⟩ : ∃ y_ : List Bool, y_ = (x7_2.set (x30_2 : Int).toNat ((bt a1 (ji35)) != 47)) := ⟨_, rfl⟩
                           replace H : (names_Match.l1 kj22 a0 a1 x5_1 y116 (bt a0 x18_1) (a0.size : Int) x18_1 (x5_1.length : Int) (wrap64 (x30_2 + 1))) = some r := by first | (rw [hy116]; with_reducible exact H) | (have H2_ := (Option.bind_some _ _).symm.trans H; rw [hy116]; with_reducible exact H2_) | (have H2_ := (Option.bind_some _ _).symm.trans H; with_reducible exact H2_) | with_reducible exact H | (rw [hy116]; exact H) | exact H
                           have Ny116 := Aside0.mk hy116
                           clear hy116
                           have H' := Aside0.mk H
                           clear H
                           have p112 : 0 ≤ (x30_2 : Int) := of_decide_eq_true (by first | (with_reducible assumption) | assumption)
                           have q112 : x30_2 < (x5_1.length : Int) := of_decide_eq_true (by first | (with_reducible assumption) | assumption)
                           obtain ⟨ad112, e112, hx112_0⟩ := Kd.at_bool (Kd.R_reads' HO_5.out).2.2 x30_2 p112 q112
                           (try rw [← Nbq28.out] at hx112_0)
                           (try rw [← Nbq38.out] at hx112_0)
                           cases e112
                           replace p112 := eq_true p112
                           replace q112 := eq_true q112
                           obtain ⟨Ao50, co50, eo50⟩ := Kd.R_slice HO_7.out
                           subst eo50
                           have p114 : 0 ≤ ((ji35) : Int) := of_decide_eq_true (by first | (with_reducible assumption) | assumption)
                           have q114 : (ji35) < (x7_2.length : Int) := of_decide_eq_true (by first | (with_reducible assumption) | assumption)
                           obtain ⟨ad114, e114, hx114_0⟩ := Kd.at_bool (Kd.R_reads' HO_7.out).2.2 (ji35) p114 q114
                           (try rw [← Nbq28.out] at hx114_0)
                           (try rw [← Nbq38.out] at hx114_0)
                           cases e114
                           replace p114 := eq_true p114
                           replace q114 := eq_true q114
                           have p47 : 0 ≤ ((ji35) : Int) := of_decide_eq_true (by first | (with_reducible assumption) | assumption)
                           have q47 : (ji35) < (a1.size : Int) := of_decide_eq_true (by first | (with_reducible assumption) | assumption)
                           have hx47 := bt_at a1 (ji35)
                           replace p47 := eq_true p47
                           replace q47 := eq_true q47
                           have p49 : 0 ≤ (x30_2 : Int) := of_decide_eq_true (by first | (with_reducible assumption) | assumption)
                           have q49 : (x30_2 : Int) < ((x7_2.length : Int) : Int) := of_decide_eq_true (by first | (with_reducible assumption) | assumption)
                           obtain ⟨go49, co49, eo49, gb49, gl49, cl49, HG49⟩ := Kd.R_form HO_7.out (by omega)
                           (first | cases eo49 | (injection eo49 with ea_ en_ ec_; (first | subst ea_ | (injection ea_ with ea_; subst ea_)); subst ec_; clear en_))
                           have GB49 := Aside0.mk gb49
                           have GG49 := Aside0.mk HG49
                           clear gb49 gl49 HG49
                           (first | simp only [add_plain] at hx114_0 | skip)
                           obtain ⟨hx49_0, hf49_0⟩ := Kd.R_celln false HO_7.out (x30_2 : Int) p49 q49
                           replace p49 := eq_true p49
                           replace q49 := eq_true q49
                           have HP51 := Kd.R_putg HO_7.out (x30_2 : Int) ((bt a1 (ji35)) != 47)
                           go_wp2_with (first | ((with_reducible refine gate_store (t := 4) (p := 68) rfl ?_); refine store_event (t := 4) (p := 68) (v := ?vo_w52) (w1 := (wc.setCell ⟨go49, (x30_2 : Int).toNat, none⟩ (.bool ((bt a1 (ji35)) != 47)))) ?hg ?ho ?hn ?hr ?_; (case ho => rfl); (case hg => rfl); (case hn => rfl); (case hr => first | (go_simp; done) | (go_simp; rfl)); intro w52 hw; have hg : wc.grownBy w52 (some go49) := (by rw [hw]; exact HP51.2); have hp_ : Kd.R Kd.bool 4 w52 w.heap.size (fun k_ => some k_ ≠ (.slice (some ad112) x5_1.length co21 : Value).ownBlock) (.slice (some ⟨go49, 0, none⟩) x7_2.length co50) y116 := (by rw [hw, Ny116.out]; exact HP51.1); clear HP51; have n0_ := Aside0.mk (Kd.R_after (v := (.slice (some ⟨go49, 0, none⟩) x7_2.length co50)) (v1 := (.slice (some ⟨go49, 0, none⟩) x7_2.length co50)) (ok := (fun _ => True)) (by (with_reducible repeat (first | apply Kd.R_alloc | apply Kd.R_drewN | apply Kd.R_drew)); exact Kd.R_mono HO_5.out (fun _ hk => ⟨trivial, hk⟩)) hg (.inl rfl)); have n1_ := Aside0.mk (hp_); have n2_ := Aside0.mk ((by rw [hw]; exact below_set (HB.out) GB49.out : Below w.heap.size w w52)); clear HO_5; clear HO_7; clear HB; have HO_5 := n0_; have HO_7 := n1_; have HB := n2_; clear n0_ n1_ n2_; clear hg hw hp_))
                           go_roundg kj22
                           case measure => have := HK1.out; have := HK2.out; have := HJ22.out; omega
                           case rel => exact ⟨(y116), (wrap64 (x30_2 + 1)), (by first | with_reducible rfl | (simp only [pps, Nat.reduceAdd, Int.toNat_natCast]; done) | rfl | (simp; done) | (simp [*]; done)), H', ⟨by have := HK1.out; have := HK2.out; have := HJ22.out; omega⟩, ⟨by (with_reducible repeat (first | apply Kd.R_alloc | apply Kd.R_drewN | apply Kd.R_drew)); exact Kd.R_mono HO_5.out (fun _ hk => hk.2)⟩, ⟨by (with_reducible repeat (first | apply Kd.R_alloc | apply Kd.R_drewN | apply Kd.R_drew)); exact HO_7.out⟩, ⟨by repeat (first | (with_reducible first | exact HB.out | apply below_alloc | apply pw_below_drewN | apply below_drew1) | exact HB.out)⟩⟩
                          ·
                           rw [if_neg c48] at H
                           exact absurd H (by simp)
                         ·
                          rw [if_neg c46] at H
                          exact absurd H (by simp)
                       ·
                        replace c39 := Bool.eq_false_iff.mpr c39
                        subst c39
                        have H1 : (if x30_2 < (x7_2.length : Int) then (names_Match.l1 kj22 a0 a1 x5_1 (x7_2.set (x30_2 : Int).toNat false) (bt a0 x18_1) (a0.size : Int) x18_1 (x5_1.length : Int) (wrap64 (x30_2 + 1))) else (none)) = some r := by rw [if_neg (show ¬ (false = true) by decide)] at H; exact H
                        clear H
                        have H := H1
                        clear H1
                        by_cases c53 : x30_2 < (x7_2.length : Int)
                        ·
                         rw [if_pos c53] at H
                         have c53b0 : decide (x30_2 < (x7_2.length : Int)) = true := decide_eq_true c53
                         clear c53
                         obtain ⟨y117, hy117⟩ : ∃ y_ : List Bool, y_ = (x7_2.set (x30_2 : Int).toNat false) := ⟨_, rfl⟩
                         replace H : (names_Match.l1 kj22 a0 a1 x5_1 y117 (bt a0 x18_1) (a0.size : Int) x18_1 (x5_1.length : Int) (wrap64 (x30_2 + 1))) = some r := by first | (rw [hy117]; with_reducible exact H) | (have H2_ := (Option.bind_some _ _).symm.trans H; rw [hy117]; with_reducible exact H2_) | (have H2_ := (Option.bind_some _ _).symm.trans H; with_reducible exact H2_) | with_reducible exact H | (rw [hy117]; exact H) | exact H
                         have Ny117 := Aside0.mk hy117
                         clear hy117
                         have H' := Aside0.mk H
                         clear H
                         have p112 : 0 ≤ (x30_2 : Int) := of_decide_eq_true (by first | (with_reducible assumption) | assumption)
                         have q112 : x30_2 < (x5_1.length : Int) := of_decide_eq_true (by first | (with_reducible assumption) | assumption)
                         obtain ⟨ad112, e112, hx112_0⟩ := Kd.at_bool (Kd.R_reads' HO_5.out).2.2 x30_2 p112 q112
                         (try rw [← Nbq28.out] at hx112_0)
                         (try rw [← Nbq38.out] at hx112_0)
                         cases e112
                         replace p112 := eq_true p112
                         replace q112 := eq_true q112
                         obtain ⟨Ao55, co55, eo55⟩ := Kd.R_slice HO_7.out
                         subst eo55
                         have p114 : 0 ≤ ((ji35) : Int) := of_decide_eq_true (by first | (with_reducible assumption) | assumption)
                         have q114 : (ji35) < (x7_2.length : Int) := of_decide_eq_true (by first | (with_reducible assumption) | assumption)
                         obtain ⟨ad114, e114, hx114_0⟩ := Kd.at_bool (Kd.R_reads' HO_7.out).2.2 (ji35) p114 q114
                         (try rw [← Nbq28.out] at hx114_0)
                         (try rw [← Nbq38.out] at hx114_0)
                         cases e114
                         replace p114 := eq_true p114
                         replace q114 := eq_true q114
                         have p54 : 0 ≤ (x30_2 : Int) := of_decide_eq_true (by first | (with_reducible assumption) | assumption)
                         have q54 : (x30_2 : Int) < ((x7_2.length : Int) : Int) := of_decide_eq_true (by first | (with_reducible assumption) | assumption)
                         obtain ⟨go54, co54, eo54, gb54, gl54, cl54, HG54⟩ := Kd.R_form HO_7.out (by omega)
                         (first | cases eo54 | (injection eo54 with ea_ en_ ec_; (first | subst ea_ | (injection ea_ with ea_; subst ea_)); subst ec_; clear en_))
                         have GB54 := Aside0.mk gb54
                         have GG54 := Aside0.mk HG54
                         clear gb54 gl54 HG54
                         (first | simp only [add_plain] at hx114_0 | skip)
                         obtain ⟨hx54_0, hf54_0⟩ := Kd.R_celln false HO_7.out (x30_2 : Int) p54 q54
                         replace p54 := eq_true p54
                         replace q54 := eq_true q54
                         have HP56 := Kd.R_putg HO_7.out (x30_2 : Int) false
                         go_wp2_with (first | ((with_reducible refine gate_store (t := 4) (p := 68) rfl ?_); refine store_event (t := 4) (p := 68) (v := ?vo_w57) (w1 := (wc.setCell ⟨go54, (x30_2 : Int).toNat, none⟩ (.bool false))) ?hg ?ho ?hn ?hr ?_; (case ho => rfl); (case hg => rfl); (case hn => rfl); (case hr => first | (go_simp; done) | (go_simp; rfl)); intro w57 hw; have hg : wc.grownBy w57 (some go54) := (by rw [hw]; exact HP56.2); have hp_ : Kd.R Kd.bool 4 w57 w.heap.size (fun k_ => some k_ ≠ (.slice (some ad112) x5_1.length co21 : Value).ownBlock) (.slice (some ⟨go54, 0, none⟩) x7_2.length co55) y117 := (by rw [hw, Ny117.out]; exact HP56.1); clear HP56; have n0_ := Aside0.mk (Kd.R_after (v := (.slice (some ⟨go54, 0, none⟩) x7_2.length co55)) (v1 := (.slice (some ⟨go54, 0, none⟩) x7_2.length co55)) (ok := (fun _ => True)) (by (with_reducible repeat (first | apply Kd.R_alloc | apply Kd.R_drewN | apply Kd.R_drew)); exact Kd.R_mono HO_5.out (fun _ hk => ⟨trivial, hk⟩)) hg (.inl rfl)); have n1_ := Aside0.mk (hp_); have n2_ := Aside0.mk ((by rw [hw]; exact below_set (HB.out) GB54.out : Below w.heap.size w w57)); clear HO_5; clear HO_7; clear HB; have HO_5 := n0_; have HO_7 := n1_; have HB := n2_; clear n0_ n1_ n2_; clear hg hw hp_))
                         go_roundg kj22
                         case measure => have := HK1.out; have := HK2.out; have := HJ22.out; omega
                         case rel => exact ⟨(y117), (wrap64 (x30_2 + 1)), (by first | with_reducible rfl | (simp only [pps, Nat.reduceAdd, Int.toNat_natCast]; done) | rfl | (simp; done) | (simp [*]; done)), H', ⟨by have := HK1.out; have := HK2.out; have := HJ22.out; omega⟩, ⟨by (with_reducible repeat (first | apply Kd.R_alloc | apply Kd.R_drewN | apply Kd.R_drew)); exact Kd.R_mono HO_5.out (fun _ hk => hk.2)⟩, ⟨by (with_reducible repeat (first | apply Kd.R_alloc | apply Kd.R_drewN | apply Kd.R_drew)); exact HO_7.out⟩, ⟨by repeat (first | (with_reducible first | exact HB.out | apply below_alloc | apply pw_below_drewN | apply below_drew1) | exact HB.out)⟩⟩
                        ·
                         rw [if_neg c53] at H
                         exact absurd H (by simp)
                      ·
                       rw [if_neg c37] at H
                       exact absurd H (by simp)
                     ·
                      rw [if_neg c36] at H
                      exact absurd H (by simp)
                    ·
                     rw [if_neg c34] at H
                     have c34b0 : decide (0 < x30_2) = false := decide_eq_false c34
                     clear c34
                     by_cases c58 : x30_2 < (x7_2.length : Int)
                     ·
                      rw [if_pos c58] at H
                      have c58b0 : decide (x30_2 < (x7_2.length : Int)) = true := decide_eq_true c58
                      clear c58
                      obtain ⟨y118, hy118⟩ : ∃ y_ : List Bool, y_ = (x7_2.set (x30_2 : Int).toNat false) := ⟨_, rfl⟩
                      replace H : (names_Match.l1 kj22 a0 a1 x5_1 y118 (bt a0 x18_1) (a0.size : Int) x18_1 (x5_1.length : Int) (wrap64 (x30_2 + 1))) = some r := by first | (rw [hy118]; with_reducible exact H) | (have H2_ := (Option.bind_some _ _).symm.trans H; rw [hy118]; with_reducible exact H2_) | (have H2_ := (Option.bind_some _ _).symm.trans H; with_reducible exact H2_) | with_reducible exact H | (rw [hy118]; exact H) | exact H
                      have Ny118 := Aside0.mk hy118
                      clear hy118
                      have H' := Aside0.mk H
                      clear H
                      have p112 : 0 ≤ (x30_2 : Int) := of_decide_eq_true (by first | (with_reducible assumption) | assumption)
                      have q112 : x30_2 < (x5_1.length : Int) := of_decide_eq_true (by first | (with_reducible assumption) | assumption)
                      obtain ⟨ad112, e112, hx112_0⟩ := Kd.at_bool (Kd.R_reads' HO_5.out).2.2 x30_2 p112 q112
                      (try rw [← Nbq28.out] at hx112_0)
                      cases e112
                      replace p112 := eq_true p112
                      replace q112 := eq_true q112
                      have p59 : 0 ≤ (x30_2 : Int) := of_decide_eq_true (by first | (with_reducible assumption) | assumption)
                      have q59 : (x30_2 : Int) < ((x7_2.length : Int) : Int) := of_decide_eq_true (by first | (with_reducible assumption) | assumption)
                      obtain ⟨go59, co59, eo59, gb59, gl59, cl59, HG59⟩ := Kd.R_form HO_7.out (by omega)
                      (first | cases eo59 | (injection eo59 with ea_ en_ ec_; (first | subst ea_ | (injection ea_ with ea_; subst ea_)); subst ec_; clear en_))
                      have GB59 := Aside0.mk gb59
                      have GG59 := Aside0.mk HG59
                      clear gb59 gl59 HG59
                      obtain ⟨hx59_0, hf59_0⟩ := Kd.R_celln false HO_7.out (x30_2 : Int) p59 q59
                      replace p59 := eq_true p59
                      replace q59 := eq_true q59
                      have HP60 := Kd.R_putg HO_7.out (x30_2 : Int) false
                      go_wp2_with (first | ((with_reducible refine gate_store (t := 4) (p := 68) rfl ?_); refine store_event (t := 4) (p := 68) (v := ?vo_w61) (w1 := (wc.setCell ⟨go59, (x30_2 : Int).toNat, none⟩ (.bool false))) ?hg ?ho ?hn ?hr ?_; (case ho => rfl); (case hg => rfl); (case hn => rfl); (case hr => first | (go_simp; done) | (go_simp; rfl)); intro w61 hw; have hg : wc.grownBy w61 (some go59) := (by rw [hw]; exact HP60.2); have hp_ : Kd.R Kd.bool 4 w61 w.heap.size (fun k_ => some k_ ≠ (.slice (some ad112) x5_1.length co21 : Value).ownBlock) (.slice (some ⟨go59, 0, none⟩) x7_2.length co59) y118 := (by rw [hw, Ny118.out]; exact HP60.1); clear HP60; have n0_ := Aside0.mk (Kd.R_after (v := (.slice (some ⟨go59, 0, none⟩) x7_2.length co59)) (v1 := (.slice (some ⟨go59, 0, none⟩) x7_2.length co59)) (ok := (fun _ => True)) (by (with_reducible repeat (first | apply Kd.R_alloc | apply Kd.R_drewN | apply Kd.R_drew)); exact Kd.R_mono HO_5.out (fun _ hk => ⟨trivial, hk⟩)) hg (.inl rfl)); have n1_ := Aside0.mk (hp_); have n2_ := Aside0.mk ((by rw [hw]; exact below_set (HB.out) GB59.out : Below w.heap.size w w61)); clear HO_5; clear HO_7; clear HB; have HO_5 := n0_; have HO_7 := n1_; have HB := n2_; clear n0_ n1_ n2_; clear hg hw hp_))
                      go_roundg kj22
                      case measure => have := HK1.out; have := HK2.out; have := HJ22.out; omega
                      case rel => exact ⟨(y118), (wrap64 (x30_2 + 1)), (by first | with_reducible rfl | (simp only [pps, Nat.reduceAdd, Int.toNat_natCast]; done) | rfl | (simp; done) | (simp [*]; done)), H', ⟨by have := HK1.out; have := HK2.out; have := HJ22.out; omega⟩, ⟨by (with_reducible repeat (first | apply Kd.R_alloc | apply Kd.R_drewN | apply Kd.R_drew)); exact Kd.R_mono HO_5.out (fun _ hk => hk.2)⟩, ⟨by (with_reducible repeat (first | apply Kd.R_alloc | apply Kd.R_drewN | apply Kd.R_drew)); exact HO_7.out⟩, ⟨by repeat (first | (with_reducible first | exact HB.out | apply below_alloc | apply pw_below_drewN | apply below_drew1) | exact HB.out)⟩⟩
                     ·
                      rw [if_neg c58] at H
                      exact absurd H (by simp)
                  ·
                   rw [if_neg c27] at H
                   exact absurd H (by simp)
                 ·
                  rw [if_neg c26] at H
                  exact absurd H (by simp)
                ·
                 replace c25 := Bool.eq_false_iff.mpr c25
                 subst c25
                 have H1 : (if x30_2 > 0 then (if 0 ≤ (wrap64 (x30_2 - 1)) then (if (wrap64 (x30_2 - 1)) < (x5_1.length : Int) then (if rdOf false x5_1 (wrap64 (x30_2 - 1)) = true then (if (wrap64 (x30_2 - 1)) < (a1.size : Int) then (if 0 ≤ x30_2 then (if x30_2 < (x7_2.length : Int) then (names_Match.l1 kj22 a0 a1 x5_1 (x7_2.set (x30_2 : Int).toNat ((bt a1 (wrap64 (x30_2 - 1))) == (bt a0 x18_1))) (bt a0 x18_1) (a0.size : Int) x18_1 (x5_1.length : Int) (wrap64 (x30_2 + 1))) else (none)) else (none)) else (none)) else (if 0 ≤ x30_2 then (if x30_2 < (x7_2.length : Int) then (names_Match.l1 kj22 a0 a1 x5_1 (x7_2.set (x30_2 : Int).toNat false) (bt a0 x18_1) (a0.size : Int) x18_1 (x5_1.length : Int) (wrap64 (x30_2 + 1))) else (none)) else (none))) else (none)) else (none)) else (names_Match.l1 kj22 a0 a1 x5_1 x7_2 (bt a0 x18_1) (a0.size : Int) x18_1 (x5_1.length : Int) (wrap64 (x30_2 + 1)))) = some r := by rw [if_neg (show ¬ (false = true) by decide)] at H; exact H
                 clear H
                 have H := H1
                 clear H1
                 by_cases c62 : x30_2 > 0
                 ·
                  rw [if_pos c62] at H
                  have c62b0 : decide (0 < x30_2) = true := decide_eq_true c62
                  clear c62
                  obtain ⟨ji63, hji63⟩ : ∃ j_ : Int, (wrap64 (x30_2 - 1)) = j_ := ⟨_, rfl⟩
                  replace H : (if 0 ≤ (ji63) then (if (ji63) < (x5_1.length : Int) then (if rdOf false x5_1 (ji63) = true then (if (ji63) < (a1.size : Int) then (if 0 ≤ x30_2 then (if x30_2 < (x7_2.length : Int) then (names_Match.l1 kj22 a0 a1 x5_1 (x7_2.set (x30_2 : Int).toNat ((bt a1 (ji63)) == (bt a0 x18_1))) (bt a0 x18_1) (a0.size : Int) x18_1 (x5_1.length : Int) (wrap64 (x30_2 + 1))) else (none)) else (none)) else (none)) else (if 0 ≤ x30_2 then (if x30_2 < (x7_2.length : Int) then (names_Match.l1 kj22 a0 a1 x5_1 (x7_2.set (x30_2 : Int).toNat false) (bt a0 x18_1) (a0.size : Int) x18_1 (x5_1.length : Int) (wrap64 (x30_2 + 1))) else (none)) else (none))) else (none)) else (none)) = some r := by first | (rw [hji63] at H; exact H) | (simp only [hji63] at H ⊢; exact H)
                  have hji63w : (IntKind.i64.wrap (x30_2 - 1)) = ji63 := (i64_w _).trans hji63
                  by_cases c64 : 0 ≤ (ji63)
                  ·
                   rw [if_pos c64] at H
                   have c64b0 : decide (0 ≤ (ji63)) = true := decide_eq_true c64
                   clear c64
                   by_cases c65 : (ji63) < (x5_1.length : Int)
                   ·
                    rw [if_pos c65] at H
                    have c65b0 : decide ((ji63) < (x5_1.length : Int)) = true := decide_eq_true c65
                    clear c65
                    obtain ⟨bq66, hbq66⟩ : ∃ b_ : Bool, b_ = (rdOf false x5_1 (ji63)) := ⟨_, rfl⟩
                    replace H : (if bq66 = true then (if (ji63) < (a1.size : Int) then (if 0 ≤ x30_2 then (if x30_2 < (x7_2.length : Int) then (names_Match.l1 kj22 a0 a1 x5_1 (x7_2.set (x30_2 : Int).toNat ((bt a1 (ji63)) == (bt a0 x18_1))) (bt a0 x18_1) (a0.size : Int) x18_1 (x5_1.length : Int) (wrap64 (x30_2 + 1))) else (none)) else (none)) else (none)) else (if 0 ≤ x30_2 then (if x30_2 < (x7_2.length : Int) then (names_Match.l1 kj22 a0 a1 x5_1 (x7_2.set (x30_2 : Int).toNat false) (bt a0 x18_1) (a0.size : Int) x18_1 (x5_1.length : Int) (wrap64 (x30_2 + 1))) else (none)) else (none))) = some r := by rw [← hbq66] at H; exact H
                    have Nbq66 := Aside0.mk hbq66
                    clear hbq66
                    by_cases c67 : bq66 = true
                    ·
                     subst c67
                     have H1 : (if (ji63) < (a1.size : Int) then (if 0 ≤ x30_2 then (if x30_2 < (x7_2.length : Int) then (names_Match.l1 kj22 a0 a1 x5_1 (x7_2.set (x30_2 : Int).toNat ((bt a1 (ji63)) == (bt a0 x18_1))) (bt a0 x18_1) (a0.size : Int) x18_1 (x5_1.length : Int) (wrap64 (x30_2 + 1))) else (none)) else (none)) else (none)) = some r := by rw [if_pos rfl] at H; exact H
                     clear H
                     have H := H1
                     clear H1
                     by_cases c68 : (ji63) < (a1.size : Int)
                     ·
                      rw [if_pos c68] at H
                      have c68b0 : decide ((ji63) < (a1.size : Int)) = true := decide_eq_true c68
                      clear c68
                      by_cases c70 : 0 ≤ x30_2
                      ·
                       rw [if_pos c70] at H
                       have c70b0 : decide (0 ≤ x30_2) = true := decide_eq_true c70
                       clear c70
                       by_cases c71 : x30_2 < (x7_2.length : Int)
                       ·
                        rw [if_pos c71] at H
                        have c71b0 : decide (x30_2 < (x7_2.length : Int)) = true := decide_eq_true c71
                        clear c71
                        obtain ⟨y120, hy120⟩ : ∃ y_ : List Bool, y_ = (x7_2.set (x30_2 : Int).toNat ((bt a1 (ji63)) == (bt a0 x18_1))) := ⟨_, rfl⟩
                        replace H : (names_Match.l1 kj22 a0 a1 x5_1 y120 (bt a0 x18_1) (a0.size : Int) x18_1 (x5_1.length : Int) (wrap64 (x30_2 + 1))) = some r := by first | (rw [hy120]; with_reducible exact H) | (have H2_ := (Option.bind_some _ _).symm.trans H; rw [hy120]; with_reducible exact H2_) | (have H2_ := (Option.bind_some _ _).symm.trans H; with_reducible exact H2_) | with_reducible exact H | (rw [hy120]; exact H) | exact H
                        have Ny120 := Aside0.mk hy120
                        clear hy120
                        have H' := Aside0.mk H
                        clear H
                        have p119 : 0 ≤ ((ji63) : Int) := of_decide_eq_true (by first | (with_reducible assumption) | assumption)
                        have q119 : (ji63) < (x5_1.length : Int) := of_decide_eq_true (by first | (with_reducible assumption) | assumption)
                        obtain ⟨ad119, e119, hx119_0⟩ := Kd.at_bool (Kd.R_reads' HO_5.out).2.2 (ji63) p119 q119
                        (try rw [← Nbq66.out] at hx119_0)
                        cases e119
                        replace p119 := eq_true p119
                        replace q119 := eq_true q119
                        have p69 : 0 ≤ ((ji63) : Int) := of_decide_eq_true (by first | (with_reducible assumption) | assumption)
                        have q69 : (ji63) < (a1.size : Int) := of_decide_eq_true (by first | (with_reducible assumption) | assumption)
                        have hx69 := bt_at a1 (ji63)
                        replace p69 := eq_true p69
                        replace q69 := eq_true q69
                        have p72 : 0 ≤ (x30_2 : Int) := of_decide_eq_true (by first | (with_reducible assumption) | assumption)
                        have q72 : (x30_2 : Int) < ((x7_2.length : Int) : Int) := of_decide_eq_true (by first | (with_reducible assumption) | assumption)
                        obtain ⟨go72, co72, eo72, gb72, gl72, cl72, HG72⟩ := Kd.R_form HO_7.out (by omega)
                        (first | cases eo72 | (injection eo72 with ea_ en_ ec_; (first | subst ea_ | (injection ea_ with ea_; subst ea_)); subst ec_; clear en_))
                        have GB72 := Aside0.mk gb72
                        have GG72 := Aside0.mk HG72
                        clear gb72 gl72 HG72
                        obtain ⟨hx72_0, hf72_0⟩ := Kd.R_celln false HO_7.out (x30_2 : Int) p72 q72
                        replace p72 := eq_true p72
                        replace q72 := eq_true q72
                        have HP73 := Kd.R_putg HO_7.out (x30_2 : Int) ((bt a1 (ji63)) == (bt a0 x18_1))
                        go_wp2_with (first | ((with_reducible refine gate_store (t := 4) (p := 87) rfl ?_); refine store_event (t := 4) (p := 87) (v := ?vo_w74) (w1 := (wc.setCell ⟨go72, (x30_2 : Int).toNat, none⟩ (.bool ((bt a1 (ji63)) == (bt a0 x18_1))))) ?hg ?ho ?hn ?hr ?_; (case ho => rfl); (case hg => rfl); (case hn => rfl); (case hr => first | (go_simp; done) | (go_simp; rfl)); intro w74 hw; have hg : wc.grownBy w74 (some go72) := (by rw [hw]; exact HP73.2); have hp_ : Kd.R Kd.bool 4 w74 w.heap.size (fun k_ => some k_ ≠ (.slice (some ad119) x5_1.length co21 : Value).ownBlock) (.slice (some ⟨go72, 0, none⟩) x7_2.length co72) y120 := (by rw [hw, Ny120.out]; exact HP73.1); clear HP73; have n0_ := Aside0.mk (Kd.R_after (v := (.slice (some ⟨go72, 0, none⟩) x7_2.length co72)) (v1 := (.slice (some ⟨go72, 0, none⟩) x7_2.length co72)) (ok := (fun _ => True)) (by (with_reducible repeat (first | apply Kd.R_alloc | apply Kd.R_drewN | apply Kd.R_drew)); exact Kd.R_mono HO_5.out (fun _ hk => ⟨trivial, hk⟩)) hg (.inl rfl)); have n1_ := Aside0.mk (hp_); have n2_ := Aside0.mk ((by rw [hw]; exact below_set (HB.out) GB72.out : Below w.heap.size w w74)); clear HO_5; clear HO_7; clear HB; have HO_5 := n0_; have HO_7 := n1_; have HB := n2_; clear n0_ n1_ n2_; clear hg hw hp_))
                        go_roundg kj22
                        case measure => have := HK1.out; have := HK2.out; have := HJ22.out; omega
                        case rel => exact ⟨(y120), (wrap64 (x30_2 + 1)), (by first | with_reducible rfl | (simp only [pps, Nat.reduceAdd, Int.toNat_natCast]; done) | rfl | (simp; done) | (simp [*]; done)), H', ⟨by have := HK1.out; have := HK2.out; have := HJ22.out; omega⟩, ⟨by (with_reducible repeat (first | apply Kd.R_alloc | apply Kd.R_drewN | apply Kd.R_drew)); exact Kd.R_mono HO_5.out (fun _ hk => hk.2)⟩, ⟨by (with_reducible repeat (first | apply Kd.R_alloc | apply Kd.R_drewN | apply Kd.R_drew)); exact HO_7.out⟩, ⟨by repeat (first | (with_reducible first | exact HB.out | apply below_alloc | apply pw_below_drewN | apply below_drew1) | exact HB.out)⟩⟩
                       ·
                        rw [if_neg c71] at H
                        exact absurd H (by simp)
                      ·
                       rw [if_neg c70] at H
                       exact absurd H (by simp)
                     ·
                      rw [if_neg c68] at H
                      exact absurd H (by simp)
                    ·
                     replace c67 := Bool.eq_false_iff.mpr c67
                     subst c67
                     have H1 : (if 0 ≤ x30_2 then (if x30_2 < (x7_2.length : Int) then (names_Match.l1 kj22 a0 a1 x5_1 (x7_2.set (x30_2 : Int).toNat false) (bt a0 x18_1) (a0.size : Int) x18_1 (x5_1.length : Int) (wrap64 (x30_2 + 1))) else (none)) else (none)) = some r := by rw [if_neg (show ¬ (false = true) by decide)] at H; exact H
                     clear H
                     have H := H1
                     clear H1
                     by_cases c75 : 0 ≤ x30_2
                     ·
                      rw [if_pos c75] at H
                      have c75b0 : decide (0 ≤ x30_2) = true := decide_eq_true c75
                      clear c75
                      by_cases c76 : x30_2 < (x7_2.length : Int)
                      ·
                       rw [if_pos c76] at H
                       have c76b0 : decide (x30_2 < (x7_2.length : Int)) = true := decide_eq_true c76
                       clear c76
                       obtain ⟨y121, hy121⟩ : ∃ y_ : List Bool, y_ = (x7_2.set (x30_2 : Int).toNat false) := ⟨_, rfl⟩
                       replace H : (names_Match.l1 kj22 a0 a1 x5_1 y121 (bt a0 x18_1) (a0.size : Int) x18_1 (x5_1.length : Int) (wrap64 (x30_2 + 1))) = some r := by first | (rw [hy121]; with_reducible exact H) | (have H2_ := (Option.bind_some _ _).symm.trans H; rw [hy121]; with_reducible exact H2_) | (have H2_ := (Option.bind_some _ _).symm.trans H; with_reducible exact H2_) | with_reducible exact H | (rw [hy121]; exact H) | exact H
                       have Ny121 := Aside0.mk hy121
                       clear hy121
                       have H' := Aside0.mk H
                       clear H
                       have p119 : 0 ≤ ((ji63) : Int) := of_decide_eq_true (by first | (with_reducible assumption) | assumption)
                       have q119 : (ji63) < (x5_1.length : Int) := of_decide_eq_true (by first | (with_reducible assumption) | assumption)
                       obtain ⟨ad119, e119, hx119_0⟩ := Kd.at_bool (Kd.R_reads' HO_5.out).2.2 (ji63) p119 q119
                       (try rw [← Nbq66.out] at hx119_0)
                       cases e119
                       replace p119 := eq_true p119
                       replace q119 := eq_true q119
                       have p77 : 0 ≤ (x30_2 : Int) := of_decide_eq_true (by first | (with_reducible assumption) | assumption)
                       have q77 : (x30_2 : Int) < ((x7_2.length : Int) : Int) := of_decide_eq_true (by first | (with_reducible assumption) | assumption)
                       obtain ⟨go77, co77, eo77, gb77, gl77, cl77, HG77⟩ := Kd.R_form HO_7.out (by omega)
                       (first | cases eo77 | (injection eo77 with ea_ en_ ec_; (first | subst ea_ | (injection ea_ with ea_; subst ea_)); subst ec_; clear en_))
                       have GB77 := Aside0.mk gb77
                       have GG77 := Aside0.mk HG77
                       clear gb77 gl77 HG77
                       obtain ⟨hx77_0, hf77_0⟩ := Kd.R_celln false HO_7.out (x30_2 : Int) p77 q77
                       replace p77 := eq_true p77
                       replace q77 := eq_true q77
                       have HP78 := Kd.R_putg HO_7.out (x30_2 : Int) false
                       go_wp2_with (first | ((with_reducible refine gate_store (t := 4) (p := 87) rfl ?_); refine store_event (t := 4) (p := 87) (v := ?vo_w79) (w1 := (wc.setCell ⟨go77, (x30_2 : Int).toNat, none⟩ (.bool false))) ?hg ?ho ?hn ?hr ?_; (case ho => rfl); (case hg => rfl); (case hn => rfl); (case hr => first | (go_simp; done) | (go_simp; rfl)); intro w79 hw; have hg : wc.grownBy w79 (some go77) := (by rw [hw]; exact HP78.2); have hp_ : Kd.R Kd.bool 4 w79 w.heap.size (fun k_ => some k_ ≠ (.slice (some ad119) x5_1.length co21 : Value).ownBlock) (.slice (some ⟨go77, 0, none⟩) x7_2.length co77) y121 := (by rw [hw, Ny121.out]; exact HP78.1); clear HP78; have n0_ := Aside0.mk (Kd.R_after (v := (.slice (some ⟨go77, 0, none⟩) x7_2.length co77)) (v1 := (.slice (some ⟨go77, 0, none⟩) x7_2.length co77)) (ok := (fun _ => True)) (by (with_reducible repeat (first | apply Kd.R_alloc | apply Kd.R_drewN | apply Kd.R_drew)); exact Kd.R_mono HO_5.out (fun _ hk => ⟨trivial, hk⟩)) hg (.inl rfl)); have n1_ := Aside0.mk (hp_); have n2_ := Aside0.mk ((by rw [hw]; exact below_set (HB.out) GB77.out : Below w.heap.size w w79)); clear HO_5; clear HO_7; clear HB; have HO_5 := n0_; have HO_7 := n1_; have HB := n2_; clear n0_ n1_ n2_; clear hg hw hp_))
                       go_roundg kj22
                       case measure => have := HK1.out; have := HK2.out; have := HJ22.out; omega
                       case rel => exact ⟨(y121), (wrap64 (x30_2 + 1)), (by first | with_reducible rfl | (simp only [pps, Nat.reduceAdd, Int.toNat_natCast]; done) | rfl | (simp; done) | (simp [*]; done)), H', ⟨by have := HK1.out; have := HK2.out; have := HJ22.out; omega⟩, ⟨by (with_reducible repeat (first | apply Kd.R_alloc | apply Kd.R_drewN | apply Kd.R_drew)); exact Kd.R_mono HO_5.out (fun _ hk => hk.2)⟩, ⟨by (with_reducible repeat (first | apply Kd.R_alloc | apply Kd.R_drewN | apply Kd.R_drew)); exact HO_7.out⟩, ⟨by repeat (first | (with_reducible first | exact HB.out | apply below_alloc | apply pw_below_drewN | apply below_drew1) | exact HB.out)⟩⟩
                      ·
                       rw [if_neg c76] at H
                       exact absurd H (by simp)
                     ·
                      rw [if_neg c75] at H
                      exact absurd H (by simp)
                   ·
                    rw [if_neg c65] at H
                    exact absurd H (by simp)
                  ·
                   rw [if_neg c64] at H
                   exact absurd H (by simp)
                 ·
                  rw [if_neg c62] at H
                  have c62b0 : decide (0 < x30_2) = false := decide_eq_false c62
                  clear c62
                  have H' := Aside0.mk H
                  clear H
                  go_wp2
                  go_roundg kj22
                  case measure => have := HK1.out; have := HK2.out; have := HJ22.out; omega
                  case rel => exact ⟨(x7_2), (wrap64 (x30_2 + 1)), (by first | with_reducible rfl | (simp only [pps, Nat.reduceAdd, Int.toNat_natCast]; done) | rfl | (simp; done) | (simp [*]; done)), H', ⟨by have := HK1.out; have := HK2.out; have := HJ22.out; omega⟩, ⟨by (with_reducible repeat (first | apply Kd.R_alloc | apply Kd.R_drewN | apply Kd.R_drew)); exact HO_5.out⟩, ⟨by (with_reducible repeat (first | apply Kd.R_alloc | apply Kd.R_drewN | apply Kd.R_drew)); exact HO_7.out⟩, ⟨by repeat (first | (with_reducible first | exact HB.out | apply below_alloc | apply pw_below_drewN | apply below_drew1) | exact HB.out)⟩⟩
             ·
              rw [if_neg c22] at H
              have c22b0 : decide (x30_2 < (x5_1.length : Int)) = false := decide_eq_false c22
              clear c22
              have H' := Aside0.mk H
              clear H
              go_wp2
              go_roundg k2
              case measure => have := HK1.out; have := HK2.out; omega
              case rel => exact ⟨(x7_2), (wrap64 (x18_1 + 1)), (by first | with_reducible rfl | (simp only [pps, Nat.reduceAdd, Int.toNat_natCast]; done) | rfl | (simp; done) | (simp [*]; done)), H', ⟨by have := HK1.out; have := HK2.out; omega⟩, ⟨by (with_reducible repeat (first | apply Kd.R_alloc | apply Kd.R_drewN | apply Kd.R_drew)); exact Kd.R_mono HO_7.out (fun _ hk => trivial)⟩, ⟨by repeat (first | (with_reducible first | exact HB.out | apply below_alloc | apply pw_below_drewN | apply below_drew1) | exact HB.out)⟩⟩
          ·
           rw [if_neg c17] at H
           exact absurd H (by simp)
         ·
          rw [if_neg c16] at H
          exact absurd H (by simp)
        ·
         rw [if_neg c15] at H
         exact absurd H (by simp)
       ·
        rw [if_neg c14] at H
        exact absurd H (by simp)
      ·
       rw [if_neg c12] at H
       have c12b0 : decide (x18_1 < (a0.size : Int)) = false := decide_eq_false c12
       clear c12
       by_cases c80 : 0 ≤ (a1.size : Int)
       ·
        rw [if_pos c80] at H
        have c80b0 : decide (0 ≤ (a1.size : Int)) = true := decide_eq_true c80
        have c80b1 : decide (0 ≤ a1.size) = true := decide_eq_true (by omega)
        clear c80
        by_cases c81 : (a1.size : Int) < (x5_1.length : Int)
        ·
         rw [if_pos c81] at H
         have c81b0 : decide ((a1.size : Int) < (x5_1.length : Int)) = true := decide_eq_true c81
         have c81b1 : decide (a1.size < x5_1.length) = true := decide_eq_true (Int.ofNat_lt.mp c81)
         clear c81
         obtain rfl := Option.some.inj H
         obtain ⟨Ao82, co82, eo82⟩ := Kd.R_slice HO_5.out
         subst eo82
         have p108 : 0 ≤ ((a1.size : Int) : Int) := of_decide_eq_true (by first | (with_reducible assumption) | assumption)
         have q108 : (a1.size : Int) < (x5_1.length : Int) := of_decide_eq_true (by first | (with_reducible assumption) | assumption)
         obtain ⟨ad108, e108, hx108_0⟩ := Kd.at_bool (Kd.R_reads' HO_5.out).2.2 (a1.size : Int) p108 q108
         (try (have hx108_s := hx108_0; simp only [Int.toNat_natCast] at hx108_s))
         cases e108
         replace p108 := eq_true p108
         replace q108 := eq_true q108
         go_wp2
         go_ret
         exact ⟨by first | rfl | (simp [errW_none, errW_some] <;> rfl) | (simp only [← hji3]; first | rfl | (simp [errW_none, errW_some] <;> rfl)) | (simp [*, errW_none, errW_some] <;> rfl), by repeat (first | (with_reducible first | exact HB.out | apply below_alloc | apply pw_below_drewN | apply below_drew1) | exact HB.out)⟩
        ·
         rw [if_neg c81] at H
         exact absurd H (by simp)
       ·
        rw [if_neg c80] at H
        exact absurd H (by simp)
   ·
    rw [if_neg c6] at H
    exact absurd H (by simp)
  ·
   rw [if_neg c5] at H
   exact absurd H (by simp)
 ·
  rw [if_neg c4] at H
  exact absurd H (by simp)

end Go.Proofs.YtnkibbfpmhgeaaaDoor.PP
