/- YtmpngedfnheilaaDoorPPx19, as far as ViewPlays needs it (prune.py). -/
import Derived.Test.YtmpngedfnheilaaDoorViewPlaysPPx0
namespace Go.Proofs.YtmpngedfnheilaaDoor.PP
open Go.RowKit Go.Proofs.YtmpngedfnheilaaDoorW.PrintWords Go.Proofs.YtmpngedfnheilaaDoorW.PrintLast Go.Proofs.YtmpngedfnheilaaDoorW.PrintMore
attribute [local go_sem] max2_int min2_int max_two min_two max_three min_three max_four min_four   -- for this text's walks alone
open Go.Proofs.YtmpngedfnheilaaDoor.My
set_option linter.unusedVariables false
set_option linter.unusedSimpArgs false
mutual
def haversackref18_Follow.l0 : Nat → List Int → List (S65) → List Int → Int → Option (List Int × Bool)
 | 0, _, _, _, _ => none
 | k + 1, x1, x2, x8, x9 => if x9 < (x2.length : Int) then (if 0 ≤ x9 then (if ((rd_T65 x2 x9).f1) ≥ 1 then (haversackref18_Follow.j1 k x1 x2 x8 x9 ((rd_T65 x2 x9).f1) (decide (((rd_T65 x2 x9).f1) ≤ (x8.length : Int)))) else (haversackref18_Follow.j1 k x1 x2 x8 x9 ((rd_T65 x2 x9).f1) false)) else (none)) else (some (x8, true))
def haversackref18_Follow.j1 : Nat → List Int → List (S65) → List Int → Int → Int → Bool → Option (List Int × Bool)
 | 0, _, _, _, _, _, _ => none
 | k + 1, x1, x2, x8, x9, x10, x11 => if 0 ≤ x9 then (if x9 < (x2.length : Int) then (if ((rd_T65 x2 x9).f0) = 1 then (haversackref18_Follow.j2 k x1 x2 x8 x9 x10 x11 x11) else (haversackref18_Follow.j2 k x1 x2 x8 x9 x10 x11 false)) else (none)) else (none)
def haversackref18_Follow.j2 : Nat → List Int → List (S65) → List Int → Int → Int → Bool → Bool → Option (List Int × Bool)
 | 0, _, _, _, _, _, _, _ => none
 | k + 1, x1, x2, x8, x9, x10, x11, x42 => if x42 = true then ((some (([] : List Int) : List Int)).bind fun y280 => (if 0 ≤ (wrap64 (x10 - 1)) then (if (wrap64 (x10 - 1)) ≤ (x8.length : Int) then ((some (x8.take ((wrap64 (x10 - 1)) : Int).toNat : List Int)).bind fun y283 => (if y280.length + y283.length < 17592186044416 then ((some (y280 ++ y283 : List Int)).bind fun y287 => (if 0 ≤ x10 then (if x10 ≤ (x8.length : Int) then ((some (x8.drop (x10 : Int).toNat : List Int)).bind fun y290 => (if y287.length + y290.length < 17592186044416 then (haversackref18_Follow.l0 k x1 x2 (y287 ++ y290) (wrap64 (x9 + 1))) else (none))) else (none)) else (none))) else (none))) else (none)) else (none))) else (if 0 ≤ x9 then (if x9 < (x2.length : Int) then (if ((rd_T65 x2 x9).f0) = 2 then (if x10 ≥ (x8.length : Int) then (haversackref18_Follow.j3 k x1 x2 x8 x9 x10 x11 (decide ((wrap64 (x10 - (x8.length : Int))) ≤ (x1.length : Int)))) else (haversackref18_Follow.j3 k x1 x2 x8 x9 x10 x11 false)) else (haversackref18_Follow.j3 k x1 x2 x8 x9 x10 x11 false)) else (none)) else (none))
def haversackref18_Follow.j3 : Nat → List Int → List (S65) → List Int → Int → Int → Bool → Bool → Option (List Int × Bool)
 | 0, _, _, _, _, _, _, _ => none
 | k + 1, x1, x2, x8, x9, x10, x11, x73 => if x73 = true then (haversackref18_Follow.l1 k x1 x2 x8 x9 x10) else (if 0 ≤ x9 then (if x9 < (x2.length : Int) then (if ((rd_T65 x2 x9).f0) = 3 then (if x11 = true then (haversackref18_Follow.l0 k x1 x2 x8 (wrap64 (x9 + 1))) else (some (x8, false))) else (some (x8, false))) else (none)) else (none))
def haversackref18_Follow.l1 : Nat → List Int → List (S65) → List Int → Int → Int → Option (List Int × Bool)
 | 0, _, _, _, _, _ => none
 | k + 1, x1, x2, x8, x9, x10 => if (x8.length : Int) < x10 then (if 0 < (x1.length : Int) then (if x8.length < 17592186044416 then (if 1 ≤ (x1.length : Int) then (haversackref18_Follow.l1 k (x1.drop 1) x2 (x8 ++ [rd x1 0]) x9 x10) else (none)) else (none)) else (none)) else (haversackref18_Follow.l0 k x1 x2 x8 (wrap64 (x9 + 1)))
end
def haversackref18_Follow.f (k : Nat) (l0 : List Int) (l1 : List Int) (l2 : List (S65)) : Option (List Int × Bool) := (some (([] : List Int) : List Int)).bind fun y272 => (if y272.length + l0.length < 17592186044416 then (haversackref18_Follow.l0 k l1 l2 (y272 ++ l0) 0) else (none))
def haversackref18_Follow.T8 : Bool × List (List Nat × List Nat) := (true, [([], []), ([], []), ([], []), ([2], [2]), ([1, 3], [1, 3]), ([0, 4], [0, 4]), ([], []), ([], []), ([6, 7], [6, 7]), ([5, 8, 5], [5, 8]), ([9, 9, 0, 1, 2, 3, 4, 5, 6, 7, 8, 9], [1, 6, 9])])
def haversackref18_Follow.B8 : List Nat := [0, 0, 0, 4, 14, 31, 0, 0, 192, 511, 1023]
theorem haversackref18_Follow.tab8 : rtab .any (opsOf Tryd.f31 8) = haversackref18_Follow.T8 := by kernel_rfl
theorem haversackref18_Follow.bits8 : waitsOk haversackref18_Follow.T8.2 haversackref18_Follow.B8 = true := by kernel_rfl
set_option maxHeartbeats 8000000 in
set_option maxRecDepth 100000 in
theorem haversackref18_Follow.calls (k : Nat) (A0 : Option Addr) (c0 : Nat) (l0 : List Int) (P1_ : Nat → Prop) (A1 : Option Addr) (c1 : Nat) (l1 : List Int) (A2 : Option Addr) (c2 : Nat) (l2 : List (S65)) (r1 : List Int) (r2 : Bool) (w : World) (hr0 : Kd.C (Kd.int .i64) w A0 l0.length l0) (hc0 : l0.length ≤ c0) (hs1 : Kd.V (Kd.int .i64) 3 w w.heap.size (fun k_ => P1_ k_) (.slice A1 l1.length c1) l1) (hr2 : Kd.C k65 w A2 l2.length l2) (hc2 : l2.length ≤ c2) (h : haversackref18_Follow.f k l0 l1 l2 = some (r1, r2)) :
  Calls Tryd.prog 31 #[.slice A0 l0.length c0, .slice A1 l1.length c1, .slice A2 l2.length c2] w fun e w' => ∃ v0_ : Value, e = .returned (.tuple #[v0_, .bool r2]) ∧ Kd.R (Kd.int .i64) 3 w' w.heap.size (fun k_ => (w.heap.size ≤ k_)) v0_ r1 ∧ Below w.heap.size w w' := by
 have HR0 := Aside0.mk hr0
 have HC0 := Aside0.mk hc0
 clear hr0 hc0
 have HO1 := Aside0.mk (show Kd.V (Kd.int .i64) 3 w w.heap.size (fun k_ => (P1_ k_ ∨ w.heap.size ≤ k_)) (.slice A1 l1.length c1) l1 from Kd.V_mono hs1 (fun k_ hk => .inl hk))
 have HR2 := Aside0.mk hr2
 have HC2 := Aside0.mk hc2
 clear hr2 hc2
 have HB := Aside0.mk (Below.refl w.heap.size w)
 have H : ((some (([] : List Int) : List Int)).bind fun y272 => (if y272.length + l0.length < 17592186044416 then (haversackref18_Follow.l0 k l1 l2 (y272 ++ l0) 0) else (none))) = some (r1, r2) := h
 clear h
 obtain ⟨y272, hy272⟩ : ∃ y_ : List Int, y_ = (([] : List Int)) := ⟨_, rfl⟩
 replace H : (if y272.length + l0.length < 17592186044416 then (haversackref18_Follow.l0 k l1 l2 (y272 ++ l0) 0) else (none)) = some (r1, r2) := by first | (rw [hy272]; with_reducible exact H) | (have H2_ := (Option.bind_some _ _).symm.trans H; rw [hy272]; with_reducible exact H2_) | (have H2_ := (Option.bind_some _ _).symm.trans H; with_reducible exact H2_) | with_reducible exact H | (rw [hy272]; exact H) | exact H
 have Ny272 := Aside0.mk hy272
 clear hy272
 by_cases c4 : y272.length + l0.length < 17592186044416
 ·
  rw [if_pos c4] at H
  have LMc4 := Aside0.mk c4
  clear c4
  obtain ⟨y275, hy275⟩ : ∃ y_ : List Int, y_ = (y272 ++ l0) := ⟨_, rfl⟩
  replace H : (haversackref18_Follow.l0 k l1 l2 y275 0) = some (r1, r2) := by first | (rw [hy275]; with_reducible exact H) | (have H2_ := (Option.bind_some _ _).symm.trans H; rw [hy275]; with_reducible exact H2_) | (have H2_ := (Option.bind_some _ _).symm.trans H; with_reducible exact H2_) | with_reducible exact H | (rw [hy275]; exact H) | exact H
  have Ny275 := Aside0.mk hy275
  clear hy275
  have H' := Aside0.mk H
  clear H
  go_enter Tryd.func31, Tryd.ntmps31
  go_wp2_with (first | ((with_reducible refine gate_dst (N := 12) rfl ?_); (try (refine gate_guard (by rfl) ?_; dsimp only)); refine Kd.R_lit (Kd.int .i64) _ 3 ?hg (N := 12) ?hd (xs := ([] : List Int)) (inner := []) (ok := fun _ => True) (okp := fun _ => True) ?hr ?hp (fun _ hk => hk) trivial (Below.refl _ _) (Nat.le_refl _) (by simp) ?_; (case hd => rfl); (case hg => rfl); (case hr => first | (go_simp; done) | (go_simp; rfl)); (case hp => exact (Reps.none _ _)); intro v273 w5 ho6 hb hg_ hnew_; clear hg_ hnew_; (first | rw [← Ny272.out] at ho6 | (simp only [Int.reduceToNat] at ho6; rw [← Ny272.out] at ho6)); have n0_ := Aside0.mk (Kd.V_elder' (by (with_reducible repeat (first | apply Kd.V_alloc | apply Kd.V_drewN | apply Kd.V_drew)); exact HO1.out) (Kd.R_base ho6) hb); have n1_ := Aside0.mk (Kd.R_lower (Kd.R_newM (M := fun k_ => (w.heap.size ≤ k_)) ho6 (below_size (by repeat (first | (with_reducible first | exact HB.out | apply below_alloc | apply pw_below_drewN | apply below_drew1) | exact HB.out))) (fun k_ h_ => h_)) (below_size (by repeat (first | (with_reducible first | exact HB.out | apply below_alloc | apply pw_below_drewN | apply below_drew1) | exact HB.out)))); have n2_ := Aside0.mk (below_step (by repeat (first | (with_reducible first | exact HB.out | apply below_alloc | apply pw_below_drewN | apply below_drew1) | exact HB.out)) hb); clear HO1; clear HB; have HO1 := n0_; have HO274 := n1_; have HB := n2_; clear n0_ n1_ n2_; clear hb ho6) | ((with_reducible refine gate_builtin (b := .append) (xs := #[.tmp 12, .tmp 13]) rfl ?_); (try (refine gate_guard (by rfl) ?_; dsimp only)); at_builtin; refine Kd.R_append_rows (Kd.int .i64) (w0 := w) w.heap.size rfl (.tmp 12) (.tmp 13) 34 3 (.int .i64 0) 8 rfl Tryd.underlying34 info3 rfl (by decide) (by omega) v273 y272 l0 _ _ _ (fun k_ => (w.heap.size ≤ k_)) (fun _ => False) rfl rfl ?aO ?aR (fun _ _ h => h) (fun _ h => h.elim) ?aF ?aB ?aS ?aL ?_; (case aR => repeat (first | exact (Kd.C_below HR0.out HB.out) | (with_reducible refine Kd.C_alloc ?_ _) | (with_reducible refine Kd.C_drewN ?_ _) | (with_reducible refine Kd.C_drew ?_))); (case aB => exact (by repeat (first | (with_reducible first | exact HB.out | apply below_alloc | apply pw_below_drewN | apply below_drew1) | exact HB.out))); (case aF => exact (fun k_ hk => (Nat.le_trans (below_size (by repeat (first | (with_reducible first | exact HB.out | apply below_alloc | apply pw_below_drewN | apply below_drew1) | exact HB.out))) hk))); (case aO => exact (by (with_reducible repeat (first | apply Kd.R_alloc | apply Kd.R_drewN | apply Kd.R_drew)); exact Kd.R_mono HO274.out (fun _ hk => hk.1))); (case aS => exact (below_size (by repeat (first | (with_reducible first | exact HB.out | apply below_alloc | apply pw_below_drewN | apply below_drew1) | exact HB.out)))); (case aL => have := LMc4.out; omega); intro v276 w7 ho hb hg hat; rw [← Ny275.out] at ho; have n0_ := Aside0.mk (Kd.V_afterv (ok := (fun k_ => (P1_ k_ ∨ w.heap.size ≤ k_))) (by (with_reducible repeat (first | apply Kd.V_alloc | apply Kd.V_drewN | apply Kd.V_drew)); exact HO1.out) hg hat); have n1_ := Aside0.mk (hb); have n2_ := Aside0.mk (ho); clear HO1; clear HB; clear HO274; have HO1 := n0_; have HB := n1_; have HO277 := n2_; clear n0_ n1_ n2_; clear ho hb hg hat))
  go_loopg [1, 8, 9] k (fun kq v1 v8 v9 w' => ∃ (x1_1 : List Int) (x8_1 : List Int) (x9_1 : Int), v9 = .int .i64 x9_1 ∧ Aside0 (haversackref18_Follow.l0 kq x1_1 l2 x8_1 x9_1 = some (r1, r2)) ∧ Aside0 (kq ≤ k) ∧ Aside0 (Kd.V (Kd.int .i64) 3 w' w.heap.size (fun k_ => (P1_ k_ ∨ w.heap.size ≤ k_) ∧ some k_ ≠ (v8 : Value).ownBlock) v1 x1_1) ∧ Aside0 (Kd.R (Kd.int .i64) 3 w' w.heap.size (fun k_ => (w.heap.size ≤ k_)) v8 x8_1) ∧ Aside0 (Below w.heap.size w w'))
  case atStart => exact ⟨(l1), (y275), (0), (by first | with_reducible rfl | (simp only [pps, Nat.reduceAdd, Int.toNat_natCast]; done) | rfl | (simp; done) | (simp [*]; done)), H', ⟨Nat.le_refl _⟩, ⟨by (with_reducible repeat (first | apply Kd.V_alloc | apply Kd.V_drewN | apply Kd.V_drew)); exact HO1.out⟩, ⟨by (with_reducible repeat (first | apply Kd.R_alloc | apply Kd.R_drewN | apply Kd.R_drew)); exact HO277.out⟩, ⟨by repeat (first | (with_reducible first | exact HB.out | apply below_alloc | apply pw_below_drewN | apply below_drew1) | exact HB.out)⟩⟩
  case round =>
   clear H'
   try clear c1
   try clear c2
   try clear p2
   try clear c3
   try clear c4
   obtain ⟨x1_1, x8_1, x9_1, rfl, HA, HK1, HO_1, HO_8, HB⟩ := hrel
   cases gk with
   | zero => exact absurd HA.out (by simp [haversackref18_Follow.l0])
   | succ k1 =>
    have H := HA.out
    clear HA
    simp only [haversackref18_Follow.l0] at H
    by_cases c8 : x9_1 < (l2.length : Int)
    ·
     rw [if_pos c8] at H
     have c8b0 : decide (x9_1 < (l2.length : Int)) = true := decide_eq_true c8
     clear c8
     by_cases c9 : 0 ≤ x9_1
     ·
      rw [if_pos c9] at H
      have c9b0 : decide (0 ≤ x9_1) = true := decide_eq_true c9
      clear c9
      have HC10 := Aside0.mk H
      clear H
      have p278 : 0 ≤ (x9_1 : Int) := of_decide_eq_true (by first | (with_reducible assumption) | assumption)
      have q278 : x9_1 < (l2.length : Int) := of_decide_eq_true (by first | (with_reducible assumption) | assumption)
      obtain ⟨ad278, A278_2, c278_2, e278, hx278_0, hx278_1, hx278_2, hl278_2, hi278_2⟩ := at_T65 HR2.out x9_1 p278 q278
      cases e278
      replace hx278_0 := (HB.out.cell (World.block_lt_of_cell? w _ hx278_0)).trans hx278_0
      replace hx278_1 := (HB.out.cell (World.block_lt_of_cell? w _ hx278_1)).trans hx278_1
      replace hx278_2 := (HB.out.cell (World.block_lt_of_cell? w _ hx278_2)).trans hx278_2
      have HR278_2 := Aside0.mk hi278_2
      have HC278_2 := Aside0.mk hl278_2
      clear hi278_2 hl278_2
      replace p278 := eq_true p278
      replace q278 := eq_true q278
      go_upto_region 6 with (fail)
      go_cut [11] (fun v11 wc => ∃ (kq : Nat) (x11_9 : Bool), v11 = .bool x11_9 ∧ Aside0 (haversackref18_Follow.j1 kq x1_1 l2 x8_1 x9_1 ((rd_T65 l2 x9_1).f1) x11_9 = some (r1, r2)) ∧ Aside0 (kq ≤ k1) ∧ Aside0 (Kd.V (Kd.int .i64) 3 wc w.heap.size (fun k_ => (P1_ k_ ∨ w.heap.size ≤ k_) ∧ some k_ ≠ (u8 : Value).ownBlock) u1 x1_1) ∧ Aside0 (Kd.R (Kd.int .i64) 3 wc w.heap.size (fun k_ => (w.heap.size ≤ k_)) u8 x8_1) ∧ Aside0 (Below w.heap.size w wc))
      case first =>
       have H := HC10.out
       clear HC10
       by_cases c11 : ((rd_T65 l2 x9_1).f1) ≥ 1
       ·
        rw [if_pos c11] at H
        have c11b0 : decide (1 ≤ ((rd_T65 l2 x9_1).f1)) = true := decide_eq_true c11
        clear c11
        (first | rw [c11b0] | (simp only [i64_w, i32_w]; rw [c11b0]) | skip)
        have H' := Aside0.mk H
        clear H
        obtain ⟨Ao12, co12, eo12⟩ := Kd.R_slice HO_8.out
        subst eo12
        go_wp2
        go_meet
        case rel => exact ⟨_, (decide (((rd_T65 l2 x9_1).f1) ≤ (x8_1.length : Int))), (by first | with_reducible rfl | (simp only [pps, Nat.reduceAdd, Int.toNat_natCast]; done) | rfl | (simp; done) | (simp [*]; done)), H', ⟨by have := HK1.out; first | omega | exact Nat.le_refl _⟩, ⟨by (with_reducible repeat (first | apply Kd.V_alloc | apply Kd.V_drewN | apply Kd.V_drew)); exact HO_1.out⟩, ⟨by (with_reducible repeat (first | apply Kd.R_alloc | apply Kd.R_drewN | apply Kd.R_drew)); exact HO_8.out⟩, ⟨by repeat (first | (with_reducible first | exact HB.out | apply below_alloc | apply pw_below_drewN | apply below_drew1) | exact HB.out)⟩⟩
       ·
        rw [if_neg c11] at H
        have c11b0 : decide (1 ≤ ((rd_T65 l2 x9_1).f1)) = false := decide_eq_false c11
        clear c11
        (first | rw [c11b0] | (simp only [i64_w, i32_w]; rw [c11b0]) | skip)
        have H' := Aside0.mk H
        clear H
        go_wp2
        go_meet
        case rel => exact ⟨_, (false), (by first | with_reducible rfl | (simp only [pps, Nat.reduceAdd, Int.toNat_natCast]; done) | rfl | (simp; done) | (simp [*]; done)), H', ⟨by have := HK1.out; first | omega | exact Nat.le_refl _⟩, ⟨by (with_reducible repeat (first | apply Kd.V_alloc | apply Kd.V_drewN | apply Kd.V_drew)); exact HO_1.out⟩, ⟨by (with_reducible repeat (first | apply Kd.R_alloc | apply Kd.R_drewN | apply Kd.R_drew)); exact HO_8.out⟩, ⟨by repeat (first | (with_reducible first | exact HB.out | apply below_alloc | apply pw_below_drewN | apply below_drew1) | exact HB.out)⟩⟩
      case rest =>
       clear HC10
       try clear c1
       try clear c2
       try clear p2
       try clear q2
       try clear hx2
       try clear c3
       try clear c4
       try clear c8
       try clear c8b0
       try clear c9
       try clear c9b0
       try clear c11
       try clear c11b0
       try clear hx278_0
       try clear hx278_1
       try clear hx278_2
       try clear p2
       try clear p278
       try clear q278
       obtain ⟨kq, x11_9, rfl, HA, HJ9, HO_1, HO_8, HB⟩ := hcut
       cases kq with
       | zero => exact absurd HA.out (by simp [haversackref18_Follow.j1])
       | succ kj9 =>
        have H := HA.out
        clear HA
        simp only [haversackref18_Follow.j1] at H
        have HC13 := Aside0.mk H
        clear H
        go_upto_region 7 with (fail)
        go_cut [42] (fun v42 wc => ∃ (kq : Nat) (x42_12 : Bool), v42 = .bool x42_12 ∧ Aside0 (haversackref18_Follow.j2 kq x1_1 l2 x8_1 x9_1 ((rd_T65 l2 x9_1).f1) x11_9 x42_12 = some (r1, r2)) ∧ Aside0 (kq ≤ kj9) ∧ Aside0 (Kd.V (Kd.int .i64) 3 wc w.heap.size (fun k_ => (P1_ k_ ∨ w.heap.size ≤ k_) ∧ some k_ ≠ (u8 : Value).ownBlock) u1 x1_1) ∧ Aside0 (Kd.R (Kd.int .i64) 3 wc w.heap.size (fun k_ => (w.heap.size ≤ k_)) u8 x8_1) ∧ Aside0 (Below w.heap.size w wc))
        case first =>
         have H := HC13.out
         clear HC13
         by_cases c14 : 0 ≤ x9_1
         ·
          rw [if_pos c14] at H
          have c14b0 : decide (0 ≤ x9_1) = true := decide_eq_true c14
          clear c14
          (first | rw [c14b0] | (simp only [i64_w, i32_w]; rw [c14b0]) | skip)
          by_cases c15 : x9_1 < (l2.length : Int)
          ·
           rw [if_pos c15] at H
           have c15b0 : decide (x9_1 < (l2.length : Int)) = true := decide_eq_true c15
           clear c15
           by_cases c16 : ((rd_T65 l2 x9_1).f0) = 1
           ·
            rw [if_pos c16] at H
            have c16b0 : (((rd_T65 l2 x9_1).f0) == 1) = true := beq_iff_eq.mpr c16
            have c16b1 : (((rd_T65 l2 x9_1).f0) != 1) = false := bne_eq_false_iff_eq.mpr c16
            clear c16
            have H' := Aside0.mk H
            clear H
            have p279 : 0 ≤ (x9_1 : Int) := of_decide_eq_true (by first | (with_reducible assumption) | assumption)
            have q279 : x9_1 < (l2.length : Int) := of_decide_eq_true (by first | (with_reducible assumption) | assumption)
            obtain ⟨ad279, A279_2, c279_2, e279, hx279_0, hx279_1, hx279_2, hl279_2, hi279_2⟩ := at_T65 HR2.out x9_1 p279 q279
            obtain rfl : ad278 = ad279 := (by injection e279)
            replace hx279_0 := (HB.out.cell (World.block_lt_of_cell? w _ hx279_0)).trans hx279_0
            replace hx279_1 := (HB.out.cell (World.block_lt_of_cell? w _ hx279_1)).trans hx279_1
            replace hx279_2 := (HB.out.cell (World.block_lt_of_cell? w _ hx279_2)).trans hx279_2
            have HR279_2 := Aside0.mk hi279_2
            have HC279_2 := Aside0.mk hl279_2
            clear hi279_2 hl279_2
            replace p279 := eq_true p279
            replace q279 := eq_true q279
            go_wp2
            go_meet
            case rel => exact ⟨_, (x11_9), (by first | with_reducible rfl | (simp only [pps, Nat.reduceAdd, Int.toNat_natCast]; done) | rfl | (simp; done) | (simp [*]; done)), H', ⟨by have := HK1.out; have := HJ9.out; first | omega | exact Nat.le_refl _⟩, ⟨by (with_reducible repeat (first | apply Kd.V_alloc | apply Kd.V_drewN | apply Kd.V_drew)); exact HO_1.out⟩, ⟨by (with_reducible repeat (first | apply Kd.R_alloc | apply Kd.R_drewN | apply Kd.R_drew)); exact HO_8.out⟩, ⟨by repeat (first | (with_reducible first | exact HB.out | apply below_alloc | apply pw_below_drewN | apply below_drew1) | exact HB.out)⟩⟩
           ·
            rw [if_neg c16] at H
            have c16b0 : (((rd_T65 l2 x9_1).f0) == 1) = false := beq_eq_false_iff_ne.mpr c16
            have c16b1 : (((rd_T65 l2 x9_1).f0) != 1) = true := bne_iff_ne.mpr c16
            have H' := Aside0.mk H
            clear H
            have p279 : 0 ≤ (x9_1 : Int) := of_decide_eq_true (by first | (with_reducible assumption) | assumption)
            have q279 : x9_1 < (l2.length : Int) := of_decide_eq_true (by first | (with_reducible assumption) | assumption)
            obtain ⟨ad279, A279_2, c279_2, e279, hx279_0, hx279_1, hx279_2, hl279_2, hi279_2⟩ := at_T65 HR2.out x9_1 p279 q279
            obtain rfl : ad278 = ad279 := (by injection e279)
            replace hx279_0 := (HB.out.cell (World.block_lt_of_cell? w _ hx279_0)).trans hx279_0
            replace hx279_1 := (HB.out.cell (World.block_lt_of_cell? w _ hx279_1)).trans hx279_1
            replace hx279_2 := (HB.out.cell (World.block_lt_of_cell? w _ hx279_2)).trans hx279_2
            have HR279_2 := Aside0.mk hi279_2
            have HC279_2 := Aside0.mk hl279_2
            clear hi279_2 hl279_2
            replace p279 := eq_true p279
            replace q279 := eq_true q279
            go_wp2
            go_meet
            case rel => exact ⟨_, (false), (by first | with_reducible rfl | (simp only [pps, Nat.reduceAdd, Int.toNat_natCast]; done) | rfl | (simp; done) | (simp [*]; done)), H', ⟨by have := HK1.out; have := HJ9.out; first | omega | exact Nat.le_refl _⟩, ⟨by (with_reducible repeat (first | apply Kd.V_alloc | apply Kd.V_drewN | apply Kd.V_drew)); exact HO_1.out⟩, ⟨by (with_reducible repeat (first | apply Kd.R_alloc | apply Kd.R_drewN | apply Kd.R_drew)); exact HO_8.out⟩, ⟨by repeat (first | (with_reducible first | exact HB.out | apply below_alloc | apply pw_below_drewN | apply below_drew1) | exact HB.out)⟩⟩
          ·
           rw [if_neg c15] at H
           exact absurd H (by simp)
         ·
          rw [if_neg c14] at H
          exact absurd H (by simp)
        case rest =>
         clear HC13
         try clear c1
         try clear c2
         try clear p2
         try clear q2
         try clear hx2
         try clear c3
         try clear c4
         try clear c8
         try clear c8b0
         try clear c9
         try clear c9b0
         try clear c11
         try clear c11b0
         try clear c14
         try clear c14b0
         try clear c15
         try clear c15b0
         try clear c16
         try clear c16b0
         try clear c16b1
         try clear hx278_0
         try clear hx278_1
         try clear hx278_2
         try clear hx279_0
         try clear hx279_1
         try clear hx279_2
         try clear p2
         try clear p278
         try clear p279
         try clear q2
         try clear q278
         try clear q279
         obtain ⟨kq, x42_12, rfl, HA, HJ12, HO_1, HO_8, HB⟩ := hcut
         cases kq with
         | zero => exact absurd HA.out (by simp [haversackref18_Follow.j2])
         | succ kj12 =>
          have H := HA.out
          clear HA
          simp only [haversackref18_Follow.j2] at H
          by_cases c17 : x42_12 = true
          ·
           subst c17
           have H1 : ((some (([] : List Int) : List Int)).bind fun y280 => (if 0 ≤ (wrap64 (((rd_T65 l2 x9_1).f1) - 1)) then (if (wrap64 (((rd_T65 l2 x9_1).f1) - 1)) ≤ (x8_1.length : Int) then ((some (x8_1.take ((wrap64 (((rd_T65 l2 x9_1).f1) - 1)) : Int).toNat : List Int)).bind fun y283 => (if y280.length + y283.length < 17592186044416 then ((some (y280 ++ y283 : List Int)).bind fun y287 => (if 0 ≤ ((rd_T65 l2 x9_1).f1) then (if ((rd_T65 l2 x9_1).f1) ≤ (x8_1.length : Int) then ((some (x8_1.drop (((rd_T65 l2 x9_1).f1) : Int).toNat : List Int)).bind fun y290 => (if y287.length + y290.length < 17592186044416 then (haversackref18_Follow.l0 kj12 x1_1 l2 (y287 ++ y290) (wrap64 (x9_1 + 1))) else (none))) else (none)) else (none))) else (none))) else (none)) else (none))) = some (r1, r2) := by rw [if_pos rfl] at H; exact H
           clear H
           have H := H1
           clear H1
           obtain ⟨y280, hy280⟩ : ∃ y_ : List Int, y_ = (([] : List Int)) := ⟨_, rfl⟩
           replace H : (if 0 ≤ (wrap64 (((rd_T65 l2 x9_1).f1) - 1)) then (if (wrap64 (((rd_T65 l2 x9_1).f1) - 1)) ≤ (x8_1.length : Int) then ((some (x8_1.take ((wrap64 (((rd_T65 l2 x9_1).f1) - 1)) : Int).toNat : List Int)).bind fun y283 => (if y280.length + y283.length < 17592186044416 then ((some (y280 ++ y283 : List Int)).bind fun y287 => (if 0 ≤ ((rd_T65 l2 x9_1).f1) then (if ((rd_T65 l2 x9_1).f1) ≤ (x8_1.length : Int) then ((some (x8_1.drop (((rd_T65 l2 x9_1).f1) : Int).toNat : List Int)).bind fun y290 => (if y287.length + y290.length < 17592186044416 then (haversackref18_Follow.l0 kj12 x1_1 l2 (y287 ++ y290) (wrap64 (x9_1 + 1))) else (none))) else (none)) else (none))) else (none))) else (none)) else (none)) = some (r1, r2) := by first | (rw [hy280]; with_reducible exact H) | (have H2_ := (Option.bind_some _ _).symm.trans H; rw [hy280]; with_reducible exact H2_) | (have H2_ := (Option.bind_some _ _).symm.trans H; with_reducible exact H2_) | with_reducible exact H | (rw [hy280]; exact H) | exact H
           have Ny280 := Aside0.mk hy280
           clear hy280
           obtain ⟨ji18, hji18⟩ : ∃ j_ : Int, (wrap64 (((rd_T65 l2 x9_1).f1) - 1)) = j_ := ⟨_, rfl⟩
           replace H : (if 0 ≤ (ji18) then (if (ji18) ≤ (x8_1.length : Int) then ((some (x8_1.take ((ji18) : Int).toNat : List Int)).bind fun y283 => (if y280.length + y283.length < 17592186044416 then ((some (y280 ++ y283 : List Int)).bind fun y287 => (if 0 ≤ ((rd_T65 l2 x9_1).f1) then (if ((rd_T65 l2 x9_1).f1) ≤ (x8_1.length : Int) then ((some (x8_1.drop (((rd_T65 l2 x9_1).f1) : Int).toNat : List Int)).bind fun y290 => (if y287.length + y290.length < 17592186044416 then (haversackref18_Follow.l0 kj12 x1_1 l2 (y287 ++ y290) (wrap64 (x9_1 + 1))) else (none))) else (none)) else (none))) else (none))) else (none)) else (none)) = some (r1, r2) := by first | (rw [hji18] at H; exact H) | (simp only [hji18] at H ⊢; exact H)
           have hji18w : (IntKind.i64.wrap (((rd_T65 l2 x9_1).f1) - 1)) = ji18 := (i64_w _).trans hji18
           by_cases c19 : 0 ≤ (ji18)
           ·
            rw [if_pos c19] at H
            have c19b0 := eq_true c19
            have c19b1 : decide (0 ≤ (ji18)) = true := decide_eq_true c19
            clear c19
            by_cases c20 : (ji18) ≤ (x8_1.length : Int)
            ·
             rw [if_pos c20] at H
             have c20b0 := eq_true c20
             have c20b1 : decide ((ji18) ≤ (x8_1.length : Int)) = true := decide_eq_true c20
             clear c20
             obtain ⟨y283, hy283⟩ : ∃ y_ : List Int, y_ = (x8_1.take ((ji18) : Int).toNat) := ⟨_, rfl⟩
             replace H : (if y280.length + y283.length < 17592186044416 then ((some (y280 ++ y283 : List Int)).bind fun y287 => (if 0 ≤ ((rd_T65 l2 x9_1).f1) then (if ((rd_T65 l2 x9_1).f1) ≤ (x8_1.length : Int) then ((some (x8_1.drop (((rd_T65 l2 x9_1).f1) : Int).toNat : List Int)).bind fun y290 => (if y287.length + y290.length < 17592186044416 then (haversackref18_Follow.l0 kj12 x1_1 l2 (y287 ++ y290) (wrap64 (x9_1 + 1))) else (none))) else (none)) else (none))) else (none)) = some (r1, r2) := by first | (rw [hy283]; with_reducible exact H) | (have H2_ := (Option.bind_some _ _).symm.trans H; rw [hy283]; with_reducible exact H2_) | (have H2_ := (Option.bind_some _ _).symm.trans H; with_reducible exact H2_) | with_reducible exact H | (rw [hy283]; exact H) | exact H
             have Ny283 := Aside0.mk hy283
             clear hy283
             by_cases c21 : y280.length + y283.length < 17592186044416
             ·
              rw [if_pos c21] at H
              have LMc21 := Aside0.mk c21
              clear c21
              obtain ⟨y287, hy287⟩ : ∃ y_ : List Int, y_ = (y280 ++ y283) := ⟨_, rfl⟩
              replace H : (if 0 ≤ ((rd_T65 l2 x9_1).f1) then (if ((rd_T65 l2 x9_1).f1) ≤ (x8_1.length : Int) then ((some (x8_1.drop (((rd_T65 l2 x9_1).f1) : Int).toNat : List Int)).bind fun y290 => (if y287.length + y290.length < 17592186044416 then (haversackref18_Follow.l0 kj12 x1_1 l2 (y287 ++ y290) (wrap64 (x9_1 + 1))) else (none))) else (none)) else (none)) = some (r1, r2) := by first | (rw [hy287]; with_reducible exact H) | (have H2_ := (Option.bind_some _ _).symm.trans H; rw [hy287]; with_reducible exact H2_) | (have H2_ := (Option.bind_some _ _).symm.trans H; with_reducible exact H2_) | with_reducible exact H | (rw [hy287]; exact H) | exact H
              have Ny287 := Aside0.mk hy287
              clear hy287
              by_cases c22 : 0 ≤ ((rd_T65 l2 x9_1).f1)
              ·
               rw [if_pos c22] at H
               have c22b0 := eq_true c22
               have c22b1 : decide (0 ≤ ((rd_T65 l2 x9_1).f1)) = true := decide_eq_true c22
               clear c22
               by_cases c23 : ((rd_T65 l2 x9_1).f1) ≤ (x8_1.length : Int)
               ·
                rw [if_pos c23] at H
                have c23b0 := eq_true c23
                have c23b1 : decide (((rd_T65 l2 x9_1).f1) ≤ (x8_1.length : Int)) = true := decide_eq_true c23
                clear c23
                obtain ⟨y290, hy290⟩ : ∃ y_ : List Int, y_ = (x8_1.drop (((rd_T65 l2 x9_1).f1) : Int).toNat) := ⟨_, rfl⟩
                replace H : (if y287.length + y290.length < 17592186044416 then (haversackref18_Follow.l0 kj12 x1_1 l2 (y287 ++ y290) (wrap64 (x9_1 + 1))) else (none)) = some (r1, r2) := by first | (rw [hy290]; with_reducible exact H) | (have H2_ := (Option.bind_some _ _).symm.trans H; rw [hy290]; with_reducible exact H2_) | (have H2_ := (Option.bind_some _ _).symm.trans H; with_reducible exact H2_) | with_reducible exact H | (rw [hy290]; exact H) | exact H
                have Ny290 := Aside0.mk hy290
                clear hy290
                by_cases c24 : y287.length + y290.length < 17592186044416
                ·
                 rw [if_pos c24] at H
                 have LMc24 := Aside0.mk c24
                 clear c24
                 obtain ⟨y294, hy294⟩ : ∃ y_ : List Int, y_ = (y287 ++ y290) := ⟨_, rfl⟩
                 replace H : (haversackref18_Follow.l0 kj12 x1_1 l2 y294 (wrap64 (x9_1 + 1))) = some (r1, r2) := by first | (rw [hy294]; with_reducible exact H) | (have H2_ := (Option.bind_some _ _).symm.trans H; rw [hy294]; with_reducible exact H2_) | (have H2_ := (Option.bind_some _ _).symm.trans H; with_reducible exact H2_) | with_reducible exact H | (rw [hy294]; exact H) | exact H
                 have Ny294 := Aside0.mk hy294
                 clear hy294
                 have H' := Aside0.mk H
                 clear H
                 try go_wp2
                 have n0_ := Aside0.mk (Kd.V_drew HO_1.out)
                 have n1_ := Aside0.mk (Kd.R_drew HO_8.out)
                 have n2_ := Aside0.mk (below_drew1 HB.out)
                 clear HO_1
                 clear HO_8
                 clear HB
                 have HO_1 := n0_
                 have HO_8 := n1_
                 have HB := n2_
                 clear n0_ n1_ n2_
                 obtain ⟨Ao27, co27, eo27⟩ := Kd.R_slice HO_8.out
                 (first | subst eo27 | (injection eo27 with f1_ f2_ f3_; have f4_ := f1_.symm; have f5_ := f3_.symm; clear f1_ f2_ f3_; subst f4_; subst f5_))
                 have q26 : ((ji18) : Int) ≤ ((x8_1.length : Int) : Int) := of_decide_eq_true (by first | (with_reducible assumption) | assumption)
                 obtain ⟨i026, hi026, _, hsz26, _⟩ := info_parts info3
                 have hroom26 : x8_1.length ≤ co27 := (Kd.R_reads' HO_8.out).2.1
                 have hC26 : Kd.C (Kd.int .i64) _ Ao27 x8_1.length x8_1 := (Kd.R_reads' HO_8.out).2.2
                 have hcut26 := cut_to (P := Tryd.prog) 34 3 .i64 Tryd.underlying34 hi026 Ao27 x8_1.length co27 (ji18) (of_decide_eq_true (by first | (with_reducible assumption) | assumption)) q26 hroom26
                 have hr26 := Kd.C_take (m := ((ji18) : Int).toNat) hC26 (by omega)
                 have hy26 : y283.length = ((ji18) : Int).toNat := (by rw [Ny283.out, List.length_take]; omega)
                 rw [← Ny283.out] at hr26
                 rw [← hy26] at hcut26
                 have HR286 := Aside0.mk hr26
                 have HC286 := Aside0.mk (show y283.length ≤ co27 from by omega)
                 clear hr26 hC26 hroom26 hi026 hsz26
                 have KY26 := Aside0.mk hy26
                 clear hy26
                 have KL26 := Aside0.mk (show ((ji18) : Int).toNat ≤ x8_1.length from by omega)
                 replace q26 := eq_true q26
                 have q28 : (((rd_T65 l2 x9_1).f1) : Int) ≤ ((x8_1.length : Int) : Int) := of_decide_eq_true (by first | (with_reducible assumption) | assumption)
                 obtain ⟨i028, hi028, _, hsz28, _⟩ := info_parts info3
                 have hroom28 : x8_1.length ≤ co27 := (Kd.R_reads' HO_8.out).2.1
                 have hC28 : Kd.C (Kd.int .i64) _ Ao27 x8_1.length x8_1 := (Kd.R_reads' HO_8.out).2.2
                 have q028 : (0 : Int) ≤ (((rd_T65 l2 x9_1).f1) : Int) := of_decide_eq_true (by first | (with_reducible assumption) | assumption)
                 have hcut28 := cut_from (P := Tryd.prog) 34 3 .i64 Tryd.underlying34 hi028 1 hsz28 Ao27 x8_1.length co27 ((rd_T65 l2 x9_1).f1) q028 q28
                 have hr28 := Kd.C_drop (m := (((rd_T65 l2 x9_1).f1) : Int).toNat) (c := co27) hC28 (by omega) hroom28
                 obtain ⟨A28, hA28⟩ : ∃ A1, A1 = (if co27 = (((rd_T65 l2 x9_1).f1) : Int).toNat then Ao27 else (Ao27 : Option Addr).map (·.add ((((rd_T65 l2 x9_1).f1) : Int).toNat * 1))) := ⟨_, rfl⟩
                 obtain ⟨c28, hc28⟩ : ∃ c1, c1 = co27 - (((rd_T65 l2 x9_1).f1) : Int).toNat := ⟨_, rfl⟩
                 have hy28 : y290.length = x8_1.length - (((rd_T65 l2 x9_1).f1) : Int).toNat := (by rw [Ny290.out, List.length_drop] <;> omega)
                 rw [show (x8_1).drop (((rd_T65 l2 x9_1).f1) : Int).toNat = y290 from Ny290.out.symm] at hr28
                 replace hr28 : Kd.C (Kd.int .i64) _ A28 y290.length y290 := (by rw [hA28]; exact hr28)
                 rw [← hy28, ← hA28, ← hc28] at hcut28
                 have HR293 := Aside0.mk hr28
                 have HC293 := Aside0.mk (show y290.length ≤ c28 from by rw [hy28, hc28]; exact Nat.sub_le_sub_right hroom28 _)
                 clear hr28 hC28 hroom28 hi028 hsz28 hc28
                 have KY28 := Aside0.mk hy28
                 have KA28 := Aside0.mk hA28
                 clear hy28 hA28
                 have KL28 := Aside0.mk (show (((rd_T65 l2 x9_1).f1) : Int).toNat ≤ x8_1.length from by omega)
                 replace q28 := eq_true q28
                 refine start_ (n := 11) (S := fun w' => True) (ds := []) #[false, false, false, false, false, false, false, false, false, false, false] (by kernel_rfl) rfl rfl trivial (fun hHeld => ?_); refine with_tabW haversackref18_Follow.tab8 haversackref18_Follow.bits8 (fun HT_ HW_ => ?_)
                 generalize wc.drew = w25 at HO_1 HO_8 HB HR286 HR293 hHeld ⊢
                 refine pure_ (i := 1) (N := some 44) (v := ?_) (a' := ?_) #[false, true, false, false, false, false, false, false, false, false, false] rfl rfl (any_of HT_.out (by kernel_rfl)) (fun _ _ _ h => h) (Or.inl ⟨by rfl, ?_⟩) ?_ ?_
                 rotate_left
                 ·
                  intro w'
                  go_simp
                  with_reducible rfl
                 rotate_left
                 ·
                  simp only [Act.put, List.setIfInBounds_toArray, List.set_cons_zero, List.set_cons_succ, i64_w, i32_w]
                  rfl
                 refine pure_ (i := 2) (N := some 45) (v := ?_) (a' := ?_) #[false, true, true, false, false, false, false, false, false, false, false] rfl rfl (any_of HT_.out (by kernel_rfl)) (fun _ _ _ h => h) (Or.inl ⟨by rfl, ?_⟩) ?_ ?_
                 rotate_left
                 ·
                  intro w'
                  go_simp
                  with_reducible rfl
                 rotate_left
                 ·
                  simp only [Act.put, List.setIfInBounds_toArray, List.set_cons_zero, List.set_cons_succ, i64_w, i32_w]
                  rfl
                 refine pure_ (i := 3) (N := some 46) (v := ?_) (a' := ?_) #[false, true, true, true, false, false, false, false, false, false, false] rfl rfl (any_of HT_.out (by kernel_rfl)) (fun _ _ _ h => h) (Or.inl ⟨by rfl, ?_⟩) ?_ ?_
                 rotate_left
                 ·
                  intro w'
                  go_simp
                  with_reducible rfl
                 rotate_left
                 ·
                  simp only [Act.put, List.setIfInBounds_toArray, List.set_cons_zero, List.set_cons_succ, i64_w, i32_w]
                  rfl
                 refine pure_ (i := 4) (N := some 47) (v := ?_) (a' := ?_) #[false, true, true, true, true, false, false, false, false, false, false] rfl rfl (any_of HT_.out (by kernel_rfl)) (fun _ _ _ h => h) (Or.inl ⟨by rfl, ?_⟩) ?_ ?_
                 rotate_left
                 ·
                  intro w'
                  go_simp
                  with_reducible rfl
                 rotate_left
                 ·
                  simp only [Act.put, List.setIfInBounds_toArray, List.set_cons_zero, List.set_cons_succ, i64_w, i32_w]
                  rfl
                 refine pure_ (i := 6) (N := some 49) (v := ?_) (a' := ?_) #[false, true, true, true, true, false, true, false, false, false, false] rfl rfl (any_of HT_.out (by kernel_rfl)) (fun _ _ _ h => h) (Or.inl ⟨by rfl, ?_⟩) ?_ ?_
                 rotate_left
                 ·
                  intro w'
                  go_simp
                  with_reducible rfl
                 rotate_left
                 ·
                  simp only [Act.put, List.setIfInBounds_toArray, List.set_cons_zero, List.set_cons_succ, i64_w, i32_w]
                  rfl
                 refine pure_ (i := 7) (N := some 50) (v := ?_) (a' := ?_) #[false, true, true, true, true, false, true, true, false, false, false] rfl rfl (any_of HT_.out (by kernel_rfl)) (fun _ _ _ h => h) (Or.inl ⟨by rfl, ?_⟩) ?_ ?_
                 rotate_left
                 ·
                  intro w'
                  go_simp
                  with_reducible rfl
                 rotate_left
                 ·
                  simp only [Act.put, List.setIfInBounds_toArray, List.set_cons_zero, List.set_cons_succ, i64_w, i32_w]
                  rfl
                 refine pure_ (i := 8) (N := some 51) (v := ?_) (a' := ?_) #[false, true, true, true, true, false, true, true, true, false, false] rfl rfl (any_of HT_.out (by kernel_rfl)) (fun _ _ _ h => h) (Or.inl ⟨by rfl, ?_⟩) ?_ ?_
                 rotate_left
                 ·
                  intro w'
                  go_simp
                  with_reducible rfl
                 rotate_left
                 ·
                  simp only [Act.put, List.setIfInBounds_toArray, List.set_cons_zero, List.set_cons_succ, i64_w, i32_w]
                  rfl
                 refine one_ (i := 0) (N := some 43) #[true, true, true, true, true, false, true, true, true, false, false] rfl rfl (one_of HT_.out (by kernel_rfl)) (by decide) (fun K hK => ?_)
                 refine Kd.R_lit_step (Kd.int .i64) _ 3 ?hg (N := 43) ?hd (xs := ([] : List Int)) (inner := []) (ok := fun _ => True) (okp := fun _ => True) ?hr ?hp (fun _ hk => hk) trivial (Below.refl _ _) (Nat.le_refl _) (by simp) ?_; (case hd => rfl); (case hg => rfl); (case hr => first | (go_simp; done) | (go_simp; rfl)); (case hp => exact (Reps.none _ _))
                 intro v281 w29 ho30 hb hg_ hnew_
                 clear hg_ hnew_
                 (first | rw [← Ny280.out] at ho30 | (simp only [Int.reduceToNat] at ho30; rw [← Ny280.out] at ho30))
                 have n0_ := Aside0.mk (Kd.V_elder' (by (with_reducible repeat (first | apply Kd.V_alloc | apply Kd.V_drewN | apply Kd.V_drew)); exact HO_1.out) (Kd.R_base ho30) hb)
                 have n1_ := Aside0.mk (Kd.R_elder' (by (with_reducible repeat (first | apply Kd.R_alloc | apply Kd.R_drewN | apply Kd.R_drew)); exact HO_8.out) (Kd.R_base ho30) hb)
                 have n2_ := Aside0.mk (Kd.R_lower (Kd.R_new' (Kd.R_newM (M := fun k_ => (w.heap.size ≤ k_)) ho30 (below_size (by repeat (first | (with_reducible first | exact HB.out | apply below_alloc | apply pw_below_drewN | apply below_drew1) | exact HB.out))) (fun k_ h_ => h_)) (Kd.R_lt (by (with_reducible repeat (first | apply Kd.R_alloc | apply Kd.R_drewN | apply Kd.R_drew)); exact HO_8.out))) (below_size (by repeat (first | (with_reducible first | exact HB.out | apply below_alloc | apply pw_below_drewN | apply below_drew1) | exact HB.out))))
                 have n3_ := Aside0.mk (Kd.C_below (by repeat (first | (with_reducible exact HR286.out) | (with_reducible refine Kd.C_alloc ?_ _) | (with_reducible refine Kd.C_drewN ?_ _) | (with_reducible refine Kd.C_drew ?_) | exact HR286.out)) hb)
                 have n4_ := Aside0.mk (Kd.C_below (by repeat (first | (with_reducible exact HR293.out) | (with_reducible refine Kd.C_alloc ?_ _) | (with_reducible refine Kd.C_drewN ?_ _) | (with_reducible refine Kd.C_drew ?_) | exact HR293.out)) hb)
                 have n5_ := Aside0.mk (below_step (by repeat (first | (with_reducible first | exact HB.out | apply below_alloc | apply pw_below_drewN | apply below_drew1) | exact HB.out)) hb)
                 clear HO_1
                 clear HO_8
                 clear HR286
                 clear HR293
                 clear HB
                 have HO_1 := n0_
                 have HO_8 := n1_
                 have HO282 := n2_
                 have HR286 := n3_
                 have HR293 := n4_
                 have HB := n5_
                 clear n0_ n1_ n2_ n3_ n4_ n5_
                 clear hb ho30
                 refine hK.out _ _ trivial (fun hHeld => ?_)
                 clear hK K
                 refine norm_ (a' := ?_) ?_ ?_
                 rotate_left
                 ·
                  show Act.put _ (some 43) _ = _
                  simp only [Act.put, List.setIfInBounds_toArray, List.set_cons_zero, List.set_cons_succ, i64_w, i32_w]
                  rfl
                 refine one_ (i := 5) (N := some 48) #[true, true, true, true, true, true, true, true, true, false, false] rfl rfl (one_of HT_.out (by kernel_rfl)) (by decide) (fun K hK => ?_)
                 refine Kd.R_append_rows_step (Kd.int .i64) (w0 := w) w.heap.size (by rfl) (.tmp 43) (.tmp 47) 34 3 (.int .i64 0) 8 rfl Tryd.underlying34 info3 rfl (by decide) (by omega) v281 y280 y283 _ _ _ (fun k_ => (w.heap.size ≤ k_) ∧ some k_ ≠ (.slice Ao27 x8_1.length co27 : Value).ownBlock) (fun _ => False) rfl rfl ?aO ?aR (fun _ _ h => h) (fun _ h => h.elim) ?aF ?aB ?aS ?aL ?_
                 (case aR => repeat (first | exact (by repeat (first | (with_reducible exact HR286.out) | (with_reducible refine Kd.C_alloc ?_ _) | (with_reducible refine Kd.C_drewN ?_ _) | (with_reducible refine Kd.C_drew ?_) | exact HR286.out)) | (with_reducible refine Kd.C_alloc ?_ _) | (with_reducible refine Kd.C_drewN ?_ _) | (with_reducible refine Kd.C_drew ?_)))
                 (case aB => exact (by repeat (first | (with_reducible first | exact HB.out | apply below_alloc | apply pw_below_drewN | apply below_drew1) | exact HB.out)))
                 (case aF => exact (fun k_ hk => ⟨(Nat.le_trans (below_size (by repeat (first | (with_reducible first | exact HB.out | apply below_alloc | apply pw_below_drewN | apply below_drew1) | exact HB.out))) hk), Kd.fresh' (Kd.R_lt (by (with_reducible repeat (first | apply Kd.R_alloc | apply Kd.R_drewN | apply Kd.R_drew)); exact HO_8.out)) k_ hk⟩))
                 (case aO => exact (by (with_reducible repeat (first | apply Kd.R_alloc | apply Kd.R_drewN | apply Kd.R_drew)); exact Kd.R_mono HO282.out (fun _ hk => ⟨hk.1.1, hk.2⟩)))
                 (case aS => exact (below_size (by repeat (first | (with_reducible first | exact HB.out | apply below_alloc | apply pw_below_drewN | apply below_drew1) | exact HB.out))))
                 (case aL => have := LMc21.out; omega)
                 intro v288 w31 ho hb hg hat
                 rw [← Ny287.out] at ho
                 have n0_ := Aside0.mk (Kd.V_afterv (ok := (fun k_ => (P1_ k_ ∨ w.heap.size ≤ k_) ∧ some k_ ≠ (.slice Ao27 x8_1.length co27 : Value).ownBlock)) (by (with_reducible repeat (first | apply Kd.V_alloc | apply Kd.V_drewN | apply Kd.V_drew)); exact HO_1.out) hg hat)
                 have n1_ := Aside0.mk (Kd.R_after (ok := (fun k_ => (w.heap.size ≤ k_))) (by (with_reducible repeat (first | apply Kd.R_alloc | apply Kd.R_drewN | apply Kd.R_drew)); exact HO_8.out) hg hat)
                 have n2_ := Aside0.mk (hb)
                 have n3_ := Aside0.mk ((show Kd.C (Kd.int .i64) w31 Ao27 y283.length y283 from by rw [Ny283.out]; exact Kd.C_take (m := ((ji18) : Int).toNat) ((Kd.R_reads' (Kd.R_after (ok := (fun k_ => (w.heap.size ≤ k_))) (by (with_reducible repeat (first | apply Kd.R_alloc | apply Kd.R_drewN | apply Kd.R_drew)); exact HO_8.out) hg hat)).2.2) KL26.out))
                 have n4_ := Aside0.mk ((show Kd.C (Kd.int .i64) w31 A28 y290.length y290 from by rw [Ny290.out, KA28.out]; exact Kd.C_drop (m := (((rd_T65 l2 x9_1).f1) : Int).toNat) (c := co27) ((Kd.R_reads' (Kd.R_after (ok := (fun k_ => (w.heap.size ≤ k_))) (by (with_reducible repeat (first | apply Kd.R_alloc | apply Kd.R_drewN | apply Kd.R_drew)); exact HO_8.out) hg hat)).2.2) KL28.out ((Kd.R_reads' (Kd.R_after (ok := (fun k_ => (w.heap.size ≤ k_))) (by (with_reducible repeat (first | apply Kd.R_alloc | apply Kd.R_drewN | apply Kd.R_drew)); exact HO_8.out) hg hat)).2.1)))
                 have n5_ := Aside0.mk (ho)
                 clear HO_1
                 clear HO_8
                 clear HB
                 clear HR286
                 clear HR293
                 clear HO282
                 have HO_1 := n0_
                 have HO_8 := n1_
                 have HB := n2_
                 have HR286 := n3_
                 have HR293 := n4_
                 have HO289 := n5_
                 clear n0_ n1_ n2_ n3_ n4_ n5_
                 clear ho hb hg hat
                 refine hK.out _ _ trivial (fun hHeld => ?_)
                 clear hK K
                 refine norm_ (a' := ?_) ?_ ?_
                 rotate_left
                 ·
                  show Act.put _ (some 48) _ = _
                  simp only [Act.put, List.setIfInBounds_toArray, List.set_cons_zero, List.set_cons_succ, i64_w, i32_w]
                  rfl
                 refine one_ (i := 9) (N := some 52) #[true, true, true, true, true, true, true, true, true, true, false] rfl rfl (one_of HT_.out (by kernel_rfl)) (by decide) (fun K hK => ?_)
                 refine Kd.R_append_rows_step (Kd.int .i64) (w0 := w) w.heap.size (by rfl) (.tmp 48) (.tmp 51) 34 3 (.int .i64 0) 8 rfl Tryd.underlying34 info3 rfl (by decide) (by omega) v288 y287 y290 _ _ _ (fun k_ => (w.heap.size ≤ k_) ∧ some k_ ≠ (.slice Ao27 x8_1.length co27 : Value).ownBlock) (fun _ => False) rfl rfl ?aO ?aR (fun _ _ h => h) (fun _ h => h.elim) ?aF ?aB ?aS ?aL ?_
                 (case aR => repeat (first | exact (by repeat (first | (with_reducible exact HR293.out) | (with_reducible refine Kd.C_alloc ?_ _) | (with_reducible refine Kd.C_drewN ?_ _) | (with_reducible refine Kd.C_drew ?_) | exact HR293.out)) | (with_reducible refine Kd.C_alloc ?_ _) | (with_reducible refine Kd.C_drewN ?_ _) | (with_reducible refine Kd.C_drew ?_)))
                 (case aB => exact (by repeat (first | (with_reducible first | exact HB.out | apply below_alloc | apply pw_below_drewN | apply below_drew1) | exact HB.out)))
                 (case aF => exact (fun k_ hk => ⟨(Nat.le_trans (below_size (by repeat (first | (with_reducible first | exact HB.out | apply below_alloc | apply pw_below_drewN | apply below_drew1) | exact HB.out))) hk), Kd.fresh' (Kd.R_lt (by (with_reducible repeat (first | apply Kd.R_alloc | apply Kd.R_drewN | apply Kd.R_drew)); exact HO_8.out)) k_ hk⟩))
                 (case aO => exact (by (with_reducible repeat (first | apply Kd.R_alloc | apply Kd.R_drewN | apply Kd.R_drew)); exact HO289.out))
                 (case aS => exact (below_size (by repeat (first | (with_reducible first | exact HB.out | apply below_alloc | apply pw_below_drewN | apply below_drew1) | exact HB.out))))
                 (case aL => have := LMc24.out; omega)
                 intro v295 w32 ho hb hg hat
                 rw [← Ny294.out] at ho
                 have n0_ := Aside0.mk (Kd.V_afterv (ok := (fun k_ => (P1_ k_ ∨ w.heap.size ≤ k_) ∧ some k_ ≠ (.slice Ao27 x8_1.length co27 : Value).ownBlock)) (by (with_reducible repeat (first | apply Kd.V_alloc | apply Kd.V_drewN | apply Kd.V_drew)); exact HO_1.out) hg hat)
                 have n1_ := Aside0.mk (Kd.R_after (ok := (fun k_ => (w.heap.size ≤ k_))) (by (with_reducible repeat (first | apply Kd.R_alloc | apply Kd.R_drewN | apply Kd.R_drew)); exact HO_8.out) hg hat)
                 have n2_ := Aside0.mk (hb)
                 have n3_ := Aside0.mk ((show Kd.C (Kd.int .i64) w32 Ao27 y283.length y283 from by rw [Ny283.out]; exact Kd.C_take (m := ((ji18) : Int).toNat) ((Kd.R_reads' (Kd.R_after (ok := (fun k_ => (w.heap.size ≤ k_))) (by (with_reducible repeat (first | apply Kd.R_alloc | apply Kd.R_drewN | apply Kd.R_drew)); exact HO_8.out) hg hat)).2.2) KL26.out))
                 have n4_ := Aside0.mk ((show Kd.C (Kd.int .i64) w32 A28 y290.length y290 from by rw [Ny290.out, KA28.out]; exact Kd.C_drop (m := (((rd_T65 l2 x9_1).f1) : Int).toNat) (c := co27) ((Kd.R_reads' (Kd.R_after (ok := (fun k_ => (w.heap.size ≤ k_))) (by (with_reducible repeat (first | apply Kd.R_alloc | apply Kd.R_drewN | apply Kd.R_drew)); exact HO_8.out) hg hat)).2.2) KL28.out ((Kd.R_reads' (Kd.R_after (ok := (fun k_ => (w.heap.size ≤ k_))) (by (with_reducible repeat (first | apply Kd.R_alloc | apply Kd.R_drewN | apply Kd.R_drew)); exact HO_8.out) hg hat)).2.1)))
                 have n5_ := Aside0.mk (ho)
                 clear HO_1
                 clear HO_8
                 clear HB
                 clear HR286
                 clear HR293
                 clear HO289
                 have HO_1 := n0_
                 have HO_8 := n1_
                 have HB := n2_
                 have HR286 := n3_
                 have HR293 := n4_
                 have HO296 := n5_
                 clear n0_ n1_ n2_ n3_ n4_ n5_
                 clear ho hb hg hat
                 refine hK.out _ _ trivial (fun hHeld => ?_)
                 clear hK K
                 refine norm_ (a' := ?_) ?_ ?_
                 rotate_left
                 ·
                  show Act.put _ (some 52) _ = _
                  simp only [Act.put, List.setIfInBounds_toArray, List.set_cons_zero, List.set_cons_succ, i64_w, i32_w]
                  rfl
                 refine pure_ (i := 10) (N := some 8) (v := ?_) (a' := ?_) #[true, true, true, true, true, true, true, true, true, true, true] rfl rfl (any_of HT_.out (by kernel_rfl)) (fun _ _ _ h => h) (Or.inl ⟨by rfl, ?_⟩) ?_ ?_
                 rotate_left
                 ·
                  intro w'
                  go_simp
                  with_reducible rfl
                 rotate_left
                 ·
                  simp only [Act.put, List.setIfInBounds_toArray, List.set_cons_zero, List.set_cons_succ, i64_w, i32_w]
                  rfl
                 refine done_ (done_of HT_.out (by kernel_rfl)) ?_
                 try go_wp2
                 go_roundg kj12
                 case measure => have := HK1.out; have := HJ9.out; have := HJ12.out; omega
                 case rel => exact ⟨(x1_1), (y294), (wrap64 (x9_1 + 1)), (by first | with_reducible rfl | (simp only [pps, Nat.reduceAdd, Int.toNat_natCast]; done) | rfl | (simp; done) | (simp [*]; done)), H', ⟨by have := HK1.out; have := HJ9.out; have := HJ12.out; omega⟩, ⟨by (with_reducible repeat (first | apply Kd.V_alloc | apply Kd.V_drewN | apply Kd.V_drew)); exact Kd.V_mono HO_1.out (fun _ hk => ⟨hk.1.1, hk.2⟩)⟩, ⟨by (with_reducible repeat (first | apply Kd.R_alloc | apply Kd.R_drewN | apply Kd.R_drew)); exact Kd.R_mono HO296.out (fun _ hk => hk.1)⟩, ⟨by repeat (first | (with_reducible first | exact HB.out | apply below_alloc | apply pw_below_drewN | apply below_drew1) | exact HB.out)⟩⟩
                ·
                 rw [if_neg c24] at H
                 exact absurd H (by simp)
               ·
                rw [if_neg c23] at H
                exact absurd H (by simp)
              ·
               rw [if_neg c22] at H
               exact absurd H (by simp)
             ·
              rw [if_neg c21] at H
              exact absurd H (by simp)
            ·
             rw [if_neg c20] at H
             exact absurd H (by simp)
           ·
            rw [if_neg c19] at H
            exact absurd H (by simp)
          ·
           replace c17 := Bool.eq_false_iff.mpr c17
           subst c17
           have H1 : (if 0 ≤ x9_1 then (if x9_1 < (l2.length : Int) then (if ((rd_T65 l2 x9_1).f0) = 2 then (if ((rd_T65 l2 x9_1).f1) ≥ (x8_1.length : Int) then (haversackref18_Follow.j3 kj12 x1_1 l2 x8_1 x9_1 ((rd_T65 l2 x9_1).f1) x11_9 (decide ((wrap64 (((rd_T65 l2 x9_1).f1) - (x8_1.length : Int))) ≤ (x1_1.length : Int)))) else (haversackref18_Follow.j3 kj12 x1_1 l2 x8_1 x9_1 ((rd_T65 l2 x9_1).f1) x11_9 false)) else (haversackref18_Follow.j3 kj12 x1_1 l2 x8_1 x9_1 ((rd_T65 l2 x9_1).f1) x11_9 false)) else (none)) else (none)) = some (r1, r2) := by rw [if_neg (show ¬ (false = true) by decide)] at H; exact H
           clear H
           have H := H1
           clear H1
           have HC33 := Aside0.mk H
           clear H
           go_upto_region 9 with (fail)
           go_cut [73] (fun v73 wc => ∃ (kq : Nat) (x73_32 : Bool), v73 = .bool x73_32 ∧ Aside0 (haversackref18_Follow.j3 kq x1_1 l2 x8_1 x9_1 ((rd_T65 l2 x9_1).f1) x11_9 x73_32 = some (r1, r2)) ∧ Aside0 (kq ≤ kj12) ∧ Aside0 (Kd.V (Kd.int .i64) 3 wc w.heap.size (fun k_ => (P1_ k_ ∨ w.heap.size ≤ k_) ∧ some k_ ≠ (u8 : Value).ownBlock) u1 x1_1) ∧ Aside0 (Kd.R (Kd.int .i64) 3 wc w.heap.size (fun k_ => (w.heap.size ≤ k_)) u8 x8_1) ∧ Aside0 (Below w.heap.size w wc))
           case first =>
            have H := HC33.out
            clear HC33
            by_cases c34 : 0 ≤ x9_1
            ·
             rw [if_pos c34] at H
             have c34b0 : decide (0 ≤ x9_1) = true := decide_eq_true c34
             clear c34
             (first | rw [c34b0] | (simp only [i64_w, i32_w]; rw [c34b0]) | skip)
             by_cases c35 : x9_1 < (l2.length : Int)
             ·
              rw [if_pos c35] at H
              have c35b0 : decide (x9_1 < (l2.length : Int)) = true := decide_eq_true c35
              clear c35
              by_cases c36 : ((rd_T65 l2 x9_1).f0) = 2
              ·
               rw [if_pos c36] at H
               have c36b0 : (((rd_T65 l2 x9_1).f0) == 2) = true := beq_iff_eq.mpr c36
               have c36b1 : (((rd_T65 l2 x9_1).f0) != 2) = false := bne_eq_false_iff_eq.mpr c36
               clear c36
               by_cases c37 : ((rd_T65 l2 x9_1).f1) ≥ (x8_1.length : Int)
               ·
                rw [if_pos c37] at H
                have c37b0 : decide ((x8_1.length : Int) ≤ ((rd_T65 l2 x9_1).f1)) = true := decide_eq_true c37
                clear c37
                have H' := Aside0.mk H
                clear H
                have p297 : 0 ≤ (x9_1 : Int) := of_decide_eq_true (by first | (with_reducible assumption) | assumption)
                have q297 : x9_1 < (l2.length : Int) := of_decide_eq_true (by first | (with_reducible assumption) | assumption)
                obtain ⟨ad297, A297_2, c297_2, e297, hx297_0, hx297_1, hx297_2, hl297_2, hi297_2⟩ := at_T65 HR2.out x9_1 p297 q297
                obtain rfl : ad278 = ad297 := (by injection e297)
                replace hx297_0 := (HB.out.cell (World.block_lt_of_cell? w _ hx297_0)).trans hx297_0
                replace hx297_1 := (HB.out.cell (World.block_lt_of_cell? w _ hx297_1)).trans hx297_1
                replace hx297_2 := (HB.out.cell (World.block_lt_of_cell? w _ hx297_2)).trans hx297_2
                have HR297_2 := Aside0.mk hi297_2
                have HC297_2 := Aside0.mk hl297_2
                clear hi297_2 hl297_2
                replace p297 := eq_true p297
                replace q297 := eq_true q297
                obtain ⟨Ao38, co38, eo38⟩ := Kd.R_slice HO_8.out
                subst eo38
                obtain ⟨Ao39, co39, eo39⟩ := Kd.V_slice HO_1.out
                subst eo39
                go_wp2
                go_meet
                case rel => exact ⟨_, (decide ((wrap64 (((rd_T65 l2 x9_1).f1) - (x8_1.length : Int))) ≤ (x1_1.length : Int))), (by first | with_reducible rfl | (simp only [pps, Nat.reduceAdd, Int.toNat_natCast]; done) | rfl | (simp; done) | (simp [*]; done)), H', ⟨by have := HK1.out; have := HJ9.out; have := HJ12.out; first | omega | exact Nat.le_refl _⟩, ⟨by (with_reducible repeat (first | apply Kd.V_alloc | apply Kd.V_drewN | apply Kd.V_drew)); exact HO_1.out⟩, ⟨by (with_reducible repeat (first | apply Kd.R_alloc | apply Kd.R_drewN | apply Kd.R_drew)); exact HO_8.out⟩, ⟨by repeat (first | (with_reducible first | exact HB.out | apply below_alloc | apply pw_below_drewN | apply below_drew1) | exact HB.out)⟩⟩
               ·
                rw [if_neg c37] at H
                have c37b0 : decide ((x8_1.length : Int) ≤ ((rd_T65 l2 x9_1).f1)) = false := decide_eq_false c37
                clear c37
                have H' := Aside0.mk H
                clear H
                have p297 : 0 ≤ (x9_1 : Int) := of_decide_eq_true (by first | (with_reducible assumption) | assumption)
                have q297 : x9_1 < (l2.length : Int) := of_decide_eq_true (by first | (with_reducible assumption) | assumption)
                obtain ⟨ad297, A297_2, c297_2, e297, hx297_0, hx297_1, hx297_2, hl297_2, hi297_2⟩ := at_T65 HR2.out x9_1 p297 q297
                obtain rfl : ad278 = ad297 := (by injection e297)
                replace hx297_0 := (HB.out.cell (World.block_lt_of_cell? w _ hx297_0)).trans hx297_0
                replace hx297_1 := (HB.out.cell (World.block_lt_of_cell? w _ hx297_1)).trans hx297_1
                replace hx297_2 := (HB.out.cell (World.block_lt_of_cell? w _ hx297_2)).trans hx297_2
                have HR297_2 := Aside0.mk hi297_2
                have HC297_2 := Aside0.mk hl297_2
                clear hi297_2 hl297_2
                replace p297 := eq_true p297
                replace q297 := eq_true q297
                obtain ⟨Ao40, co40, eo40⟩ := Kd.R_slice HO_8.out
                subst eo40
                go_wp2
                go_meet
                case rel => exact ⟨_, (false), (by first | with_reducible rfl | (simp only [pps, Nat.reduceAdd, Int.toNat_natCast]; done) | rfl | (simp; done) | (simp [*]; done)), H', ⟨by have := HK1.out; have := HJ9.out; have := HJ12.out; first | omega | exact Nat.le_refl _⟩, ⟨by (with_reducible repeat (first | apply Kd.V_alloc | apply Kd.V_drewN | apply Kd.V_drew)); exact HO_1.out⟩, ⟨by (with_reducible repeat (first | apply Kd.R_alloc | apply Kd.R_drewN | apply Kd.R_drew)); exact HO_8.out⟩, ⟨by repeat (first | (with_reducible first | exact HB.out | apply below_alloc | apply pw_below_drewN | apply below_drew1) | exact HB.out)⟩⟩
              ·
               rw [if_neg c36] at H
               have c36b0 : (((rd_T65 l2 x9_1).f0) == 2) = false := beq_eq_false_iff_ne.mpr c36
               have c36b1 : (((rd_T65 l2 x9_1).f0) != 2) = true := bne_iff_ne.mpr c36
               have H' := Aside0.mk H
               clear H
               have p297 : 0 ≤ (x9_1 : Int) := of_decide_eq_true (by first | (with_reducible assumption) | assumption)
               have q297 : x9_1 < (l2.length : Int) := of_decide_eq_true (by first | (with_reducible assumption) | assumption)
               obtain ⟨ad297, A297_2, c297_2, e297, hx297_0, hx297_1, hx297_2, hl297_2, hi297_2⟩ := at_T65 HR2.out x9_1 p297 q297
               obtain rfl : ad278 = ad297 := (by injection e297)
               replace hx297_0 := (HB.out.cell (World.block_lt_of_cell? w _ hx297_0)).trans hx297_0
               replace hx297_1 := (HB.out.cell (World.block_lt_of_cell? w _ hx297_1)).trans hx297_1
               replace hx297_2 := (HB.out.cell (World.block_lt_of_cell? w _ hx297_2)).trans hx297_2
               have HR297_2 := Aside0.mk hi297_2
               have HC297_2 := Aside0.mk hl297_2
               clear hi297_2 hl297_2
               replace p297 := eq_true p297
               replace q297 := eq_true q297
               go_wp2
               go_meet
               case rel => exact ⟨_, (false), (by first | with_reducible rfl | (simp only [pps, Nat.reduceAdd, Int.toNat_natCast]; done) | rfl | (simp; done) | (simp [*]; done)), H', ⟨by have := HK1.out; have := HJ9.out; have := HJ12.out; first | omega | exact Nat.le_refl _⟩, ⟨by (with_reducible repeat (first | apply Kd.V_alloc | apply Kd.V_drewN | apply Kd.V_drew)); exact HO_1.out⟩, ⟨by (with_reducible repeat (first | apply Kd.R_alloc | apply Kd.R_drewN | apply Kd.R_drew)); exact HO_8.out⟩, ⟨by repeat (first | (with_reducible first | exact HB.out | apply below_alloc | apply pw_below_drewN | apply below_drew1) | exact HB.out)⟩⟩
             ·
              rw [if_neg c35] at H
              exact absurd H (by simp)
            ·
             rw [if_neg c34] at H
             exact absurd H (by simp)
           case rest =>
            clear HC33
            try clear c1
            try clear c2
            try clear p2
            try clear q2
            try clear hx2
            try clear c3
            try clear c4
            try clear p6
            try clear c8
            try clear c8b0
            try clear c9
            try clear c9b0
            try clear c11
            try clear c11b0
            try clear c14
            try clear c14b0
            try clear c15
            try clear c15b0
            try clear c16
            try clear c16b0
            try clear c16b1
            try clear c17
            try clear c19
            try clear c19b0
            try clear c19b1
            try clear c20
            try clear c20b0
            try clear c20b1
            try clear c21
            try clear c22
            try clear c22b0
            try clear c22b1
            try clear c23
            try clear c23b0
            try clear c23b1
            try clear c24
            try clear q26
            try clear c27
            try clear p27
            try clear q27
            try clear hx27
            try clear c28
            try clear q28
            try clear c29
            try clear p29
            try clear q29
            try clear hx29
            try clear c31
            try clear c34
            try clear c34b0
            try clear c35
            try clear c35b0
            try clear c36
            try clear c36b0
            try clear c36b1
            try clear c37
            try clear c37b0
            try clear hx278_0
            try clear hx278_1
            try clear hx278_2
            try clear hx279_0
            try clear hx279_1
            try clear hx279_2
            try clear hx297_0
            try clear hx297_1
            try clear hx297_2
            try clear p2
            try clear p278
            try clear p279
            try clear p297
            try clear q028
            try clear q2
            try clear q26
            try clear q278
            try clear q279
            try clear q28
            try clear q297
            obtain ⟨kq, x73_32, rfl, HA, HJ32, HO_1, HO_8, HB⟩ := hcut
            cases kq with
            | zero => exact absurd HA.out (by simp [haversackref18_Follow.j3])
            | succ kj32 =>
             have H := HA.out
             clear HA
             simp only [haversackref18_Follow.j3] at H
             by_cases c41 : x73_32 = true
             ·
              subst c41
              have H1 : (haversackref18_Follow.l1 kj32 x1_1 l2 x8_1 x9_1 ((rd_T65 l2 x9_1).f1)) = some (r1, r2) := by rw [if_pos rfl] at H; exact H
              clear H
              have H := H1
              clear H1
              have H' := Aside0.mk H
              clear H
              go_wp2
              go_loopg [1, 8] kj32 (fun kq v1 v8 w' => ∃ (x1_5 : List Int) (x8_5 : List Int), Aside0 (haversackref18_Follow.l1 kq x1_5 l2 x8_5 x9_1 ((rd_T65 l2 x9_1).f1) = some (r1, r2)) ∧ Aside0 (kq ≤ kj32) ∧ Aside0 (Kd.V (Kd.int .i64) 3 w' w.heap.size (fun k_ => (P1_ k_ ∨ w.heap.size ≤ k_) ∧ some k_ ≠ (v8 : Value).ownBlock) v1 x1_5) ∧ Aside0 (Kd.R (Kd.int .i64) 3 w' w.heap.size (fun k_ => (w.heap.size ≤ k_)) v8 x8_5) ∧ Aside0 (Below w.heap.size w w'))
              case atStart => exact ⟨(x1_1), (x8_1), H', ⟨Nat.le_refl _⟩, ⟨by (with_reducible repeat (first | apply Kd.V_alloc | apply Kd.V_drewN | apply Kd.V_drew)); exact HO_1.out⟩, ⟨by (with_reducible repeat (first | apply Kd.R_alloc | apply Kd.R_drewN | apply Kd.R_drew)); exact HO_8.out⟩, ⟨by repeat (first | (with_reducible first | exact HB.out | apply below_alloc | apply pw_below_drewN | apply below_drew1) | exact HB.out)⟩⟩
              case round =>
               clear H'
               try clear c1
               try clear c2
               try clear p2
               try clear q2
               try clear hx2
               try clear c3
               try clear c4
               try clear p6
               try clear c8
               try clear c8b0
               try clear c9
               try clear c9b0
               try clear c11
               try clear c11b0
               try clear c14
               try clear c14b0
               try clear c15
               try clear c15b0
               try clear c16
               try clear c16b0
               try clear c16b1
               try clear c17
               try clear c19
               try clear c19b0
               try clear c19b1
               try clear c20
               try clear c20b0
               try clear c20b1
               try clear c21
               try clear c22
               try clear c22b0
               try clear c22b1
               try clear c23
               try clear c23b0
               try clear c23b1
               try clear c24
               try clear q26
               try clear c27
               try clear p27
               try clear q27
               try clear hx27
               try clear c28
               try clear q28
               try clear c29
               try clear p29
               try clear q29
               try clear hx29
               try clear c31
               try clear c34
               try clear c34b0
               try clear c35
               try clear c35b0
               try clear c36
               try clear c36b0
               try clear c36b1
               try clear c37
               try clear c37b0
               try clear c41
               try clear hx278_0
               try clear hx278_1
               try clear hx278_2
               try clear hx279_0
               try clear hx279_1
               try clear hx279_2
               try clear hx297_0
               try clear hx297_1
               try clear hx297_2
               try clear p2
               try clear p27
               try clear p278
               try clear p279
               try clear p29
               try clear p297
               try clear p6
               try clear q028
               try clear q2
               try clear q26
               try clear q27
               try clear q278
               try clear q279
               try clear q28
               try clear q29
               try clear q297
               obtain ⟨x1_5, x8_5, HA, HK5, HO_1, HO_8, HB⟩ := hrel
               cases gk with
               | zero => exact absurd HA.out (by simp [haversackref18_Follow.l1])
               | succ k5 =>
                have H := HA.out
                clear HA
                simp only [haversackref18_Follow.l1] at H
                by_cases c42 : (x8_5.length : Int) < ((rd_T65 l2 x9_1).f1)
                ·
                 rw [if_pos c42] at H
                 have c42b0 : decide ((x8_5.length : Int) < ((rd_T65 l2 x9_1).f1)) = true := decide_eq_true c42
                 clear c42
                 by_cases c43 : 0 < (x1_5.length : Int)
                 ·
                  rw [if_pos c43] at H
                  have c43b0 : decide (0 < (x1_5.length : Int)) = true := decide_eq_true c43
                  have c43b1 : decide (0 < x1_5.length) = true := decide_eq_true (by omega)
                  clear c43
                  by_cases c44 : x8_5.length < 17592186044416
                  ·
                   rw [if_pos c44] at H
                   have LMc44 := Aside0.mk c44
                   clear c44
                   obtain ⟨y299, hy299⟩ : ∃ y_ : List Int, y_ = (x8_5 ++ [rd x1_5 0]) := ⟨_, rfl⟩
                   replace H : (if 1 ≤ (x1_5.length : Int) then (haversackref18_Follow.l1 k5 (x1_5.drop 1) l2 y299 x9_1 ((rd_T65 l2 x9_1).f1)) else (none)) = some (r1, r2) := by first | (rw [hy299]; with_reducible exact H) | (have H2_ := (Option.bind_some _ _).symm.trans H; rw [hy299]; with_reducible exact H2_) | (have H2_ := (Option.bind_some _ _).symm.trans H; with_reducible exact H2_) | with_reducible exact H | (rw [hy299]; exact H) | exact H
                   have Ny299 := Aside0.mk hy299
                   clear hy299
                   by_cases c45 : 1 ≤ (x1_5.length : Int)
                   ·
                    rw [if_pos c45] at H
                    have c45b0 := eq_true c45
                    have c45b1 : decide (1 ≤ (x1_5.length : Int)) = true := decide_eq_true c45
                    clear c45
                    obtain ⟨y302, hy302⟩ : ∃ y_ : List Int, y_ = (x1_5.drop 1) := ⟨_, rfl⟩
                    replace H : (haversackref18_Follow.l1 k5 y302 l2 y299 x9_1 ((rd_T65 l2 x9_1).f1)) = some (r1, r2) := by first | (rw [hy302]; with_reducible exact H) | (have H2_ := (Option.bind_some _ _).symm.trans H; rw [hy302]; with_reducible exact H2_) | (have H2_ := (Option.bind_some _ _).symm.trans H; with_reducible exact H2_) | with_reducible exact H | (rw [hy302]; exact H) | exact H
                    have Ny302 := Aside0.mk hy302
                    clear hy302
                    have H' := Aside0.mk H
                    clear H
                    obtain ⟨Ao46, co46, eo46⟩ := Kd.R_slice HO_8.out
                    subst eo46
                    obtain ⟨Ao47, co47, eo47⟩ := Kd.V_slice HO_1.out
                    subst eo47
                    have p298 : 0 ≤ (0 : Int) := (by omega)
                    have q298 : 0 < (x1_5.length : Int) := of_decide_eq_true (by first | (with_reducible assumption) | assumption)
                    obtain ⟨ad298, e298, hx298_0⟩ := Kd.at_int (Kd.V_reads' HO_1.out).2.2 0 p298 q298
                    cases e298
                    have qi298 : (0 < x1_5.length) = True := eq_true (by omega)
                    (try rw [show ((0 : Int)).toNat = 0 from rfl] at hx298_0)
                    (try rw [Addr.add_zero'] at hx298_0)
                    replace p298 := eq_true p298
                    replace q298 := eq_true q298
                    go_wp2_with (first | ((with_reducible refine gate_builtin (b := .append) (xs := #[.tmp 78, .tmp 82]) rfl ?_); (try (refine gate_guard (by rfl) ?_; dsimp only)); at_builtin; refine Kd.R_append (Kd.int .i64) (w0 := w) w.heap.size rfl (.tmp 78) (.tmp 82) 34 3 (.int .i64 0) 8 rfl Tryd.underlying34 info3 rfl (by decide) (by omega) (.slice Ao46 x8_5.length co46) x8_5 (rd x1_5 0) [.int .i64 (rd x1_5 0)] (fun k_ => (w.heap.size ≤ k_)) (fun _ => False) rfl rfl ?aP (fun _ hk => hk.elim) ?aF ?aO ?aB ?aS ?aL ?_; (case aP => exact rfl); (case aB => exact (by repeat (first | (with_reducible first | exact HB.out | apply below_alloc | apply pw_below_drewN | apply below_drew1) | exact HB.out))); (case aF => exact (fun k_ hk => (Nat.le_trans (below_size (by repeat (first | (with_reducible first | exact HB.out | apply below_alloc | apply pw_below_drewN | apply below_drew1) | exact HB.out))) hk))); (case aO => exact (by (with_reducible repeat (first | apply Kd.R_alloc | apply Kd.R_drewN | apply Kd.R_drew)); exact HO_8.out)); (case aS => exact (below_size (by repeat (first | (with_reducible first | exact HB.out | apply below_alloc | apply pw_below_drewN | apply below_drew1) | exact HB.out)))); (case aL => have := LMc44.out; omega); intro v300 w48 ho hb hg hat; rw [← Ny299.out] at ho; have n0_ := Aside0.mk (Kd.V_afterv (ok := (fun k_ => (P1_ k_ ∨ w.heap.size ≤ k_))) (by (with_reducible repeat (first | apply Kd.V_alloc | apply Kd.V_drewN | apply Kd.V_drew)); exact HO_1.out) hg hat); have n1_ := Aside0.mk (hb); have n2_ := Aside0.mk (ho); clear HO_1; clear HB; clear HO_8; have HO_1 := n0_; have HB := n1_; have HO301 := n2_; clear n0_ n1_ n2_; clear ho hb hg hat; have q49 : (1 : Int) ≤ ((x1_5.length : Int) : Int) := of_decide_eq_true (by first | (with_reducible assumption) | assumption); obtain ⟨i049, hi049, _, hsz49, _⟩ := info_parts info3; have hroom49 : x1_5.length ≤ co47 := (Kd.V_reads' HO_1.out).2.1; have hC49 : Kd.F (Kd.int .i64) _ _ (some ad298) x1_5.length x1_5 := (Kd.V_at (base := w.heap.size) HO_1.out).2.2; have hcut49 := cut_from (P := Tryd.prog) 34 3 .i64 Tryd.underlying34 hi049 1 hsz49 (some ad298) x1_5.length co47 1 (by omega) q49; have hr49 := Kd.F_cut (m := (1 : Int).toNat) (c := co47) hC49 (by omega) hroom49; obtain ⟨A49, hA49⟩ : ∃ A1, A1 = (if co47 = (1 : Int).toNat then (some ad298) else ((some ad298) : Option Addr).map (·.add ((1 : Int).toNat * 1))) := ⟨_, rfl⟩; obtain ⟨c49, hc49⟩ : ∃ c1, c1 = co47 - (1 : Int).toNat := ⟨_, rfl⟩; have hy49 : y302.length = x1_5.length - (1 : Int).toNat := (by rw [Ny302.out, List.length_drop] <;> omega); rw [show (x1_5).drop (1 : Int).toNat = y302 from Ny302.out.symm] at hr49; replace hr49 : Kd.F (Kd.int .i64) _ _ A49 y302.length y302 := (by rw [hA49]; exact hr49); rw [← hy49, ← hA49, ← hc49] at hcut49; have HO306 := Aside0.mk (show Kd.V (Kd.int .i64) 3 _ w.heap.size _ (.slice A49 y302.length c49) y302 from Kd.V_mk (by rw [hy49, hc49]; exact Nat.sub_le_sub_right hroom49 _) hr49); have HC306 := Aside0.mk (show y302.length ≤ c49 from by rw [hy49, hc49]; exact Nat.sub_le_sub_right hroom49 _); clear hr49 hC49 hroom49 hi049 hsz49 hc49; have KY49 := Aside0.mk hy49; have KA49 := Aside0.mk hA49; clear hy49 hA49; replace q49 := eq_true q49))
                    go_roundg k5
                    case measure => have := HK1.out; have := HJ9.out; have := HJ12.out; have := HJ32.out; have := HK5.out; omega
                    case rel => exact ⟨(y302), (y299), H', ⟨by have := HK1.out; have := HJ9.out; have := HJ12.out; have := HJ32.out; have := HK5.out; omega⟩, ⟨by (with_reducible repeat (first | apply Kd.V_alloc | apply Kd.V_drewN | apply Kd.V_drew)); exact HO306.out⟩, ⟨by (with_reducible repeat (first | apply Kd.R_alloc | apply Kd.R_drewN | apply Kd.R_drew)); exact HO301.out⟩, ⟨by repeat (first | (with_reducible first | exact HB.out | apply below_alloc | apply pw_below_drewN | apply below_drew1) | exact HB.out)⟩⟩
                   ·
                    rw [if_neg c45] at H
                    exact absurd H (by simp)
                  ·
                   rw [if_neg c44] at H
                   exact absurd H (by simp)
                 ·
                  rw [if_neg c43] at H
                  exact absurd H (by simp)
                ·
                 rw [if_neg c42] at H
                 have c42b0 : decide ((x8_5.length : Int) < ((rd_T65 l2 x9_1).f1)) = false := decide_eq_false c42
                 clear c42
                 have H' := Aside0.mk H
                 clear H
                 obtain ⟨Ao50, co50, eo50⟩ := Kd.R_slice HO_8.out
                 subst eo50
                 go_wp2
                 go_roundg k5
                 case measure => have := HK1.out; have := HJ9.out; have := HJ12.out; have := HJ32.out; have := HK5.out; omega
                 case rel => exact ⟨(x1_5), (x8_5), (wrap64 (x9_1 + 1)), (by first | with_reducible rfl | (simp only [pps, Nat.reduceAdd, Int.toNat_natCast]; done) | rfl | (simp; done) | (simp [*]; done)), H', ⟨by have := HK1.out; have := HJ9.out; have := HJ12.out; have := HJ32.out; have := HK5.out; omega⟩, ⟨by (with_reducible repeat (first | apply Kd.V_alloc | apply Kd.V_drewN | apply Kd.V_drew)); exact HO_1.out⟩, ⟨by (with_reducible repeat (first | apply Kd.R_alloc | apply Kd.R_drewN | apply Kd.R_drew)); exact HO_8.out⟩, ⟨by repeat (first | (with_reducible first | exact HB.out | apply below_alloc | apply pw_below_drewN | apply below_drew1) | exact HB.out)⟩⟩
             ·
              replace c41 := Bool.eq_false_iff.mpr c41
              subst c41
              have H1 : (if 0 ≤ x9_1 then (if x9_1 < (l2.length : Int) then (if ((rd_T65 l2 x9_1).f0) = 3 then (if x11_9 = true then (haversackref18_Follow.l0 kj32 x1_1 l2 x8_1 (wrap64 (x9_1 + 1))) else (some (x8_1, false))) else (some (x8_1, false))) else (none)) else (none)) = some (r1, r2) := by rw [if_neg (show ¬ (false = true) by decide)] at H; exact H
              clear H
              have H := H1
              clear H1
              by_cases c51 : 0 ≤ x9_1
              ·
               rw [if_pos c51] at H
               have c51b0 : decide (0 ≤ x9_1) = true := decide_eq_true c51
               clear c51
               by_cases c52 : x9_1 < (l2.length : Int)
               ·
                rw [if_pos c52] at H
                have c52b0 : decide (x9_1 < (l2.length : Int)) = true := decide_eq_true c52
                clear c52
                by_cases c53 : ((rd_T65 l2 x9_1).f0) = 3
                ·
                 rw [if_pos c53] at H
                 have c53b0 : (((rd_T65 l2 x9_1).f0) == 3) = true := beq_iff_eq.mpr c53
                 have c53b1 : (((rd_T65 l2 x9_1).f0) != 3) = false := bne_eq_false_iff_eq.mpr c53
                 clear c53
                 by_cases c54 : x11_9 = true
                 ·
                  subst c54
                  have H1 : (haversackref18_Follow.l0 kj32 x1_1 l2 x8_1 (wrap64 (x9_1 + 1))) = some (r1, r2) := by rw [if_pos rfl] at H; exact H
                  clear H
                  have H := H1
                  clear H1
                  have H' := Aside0.mk H
                  clear H
                  have p307 : 0 ≤ (x9_1 : Int) := of_decide_eq_true (by first | (with_reducible assumption) | assumption)
                  have q307 : x9_1 < (l2.length : Int) := of_decide_eq_true (by first | (with_reducible assumption) | assumption)
                  obtain ⟨ad307, A307_2, c307_2, e307, hx307_0, hx307_1, hx307_2, hl307_2, hi307_2⟩ := at_T65 HR2.out x9_1 p307 q307
                  obtain rfl : ad278 = ad307 := (by injection e307)
                  replace hx307_0 := (HB.out.cell (World.block_lt_of_cell? w _ hx307_0)).trans hx307_0
                  replace hx307_1 := (HB.out.cell (World.block_lt_of_cell? w _ hx307_1)).trans hx307_1
                  replace hx307_2 := (HB.out.cell (World.block_lt_of_cell? w _ hx307_2)).trans hx307_2
                  have HR307_2 := Aside0.mk hi307_2
                  have HC307_2 := Aside0.mk hl307_2
                  clear hi307_2 hl307_2
                  replace p307 := eq_true p307
                  replace q307 := eq_true q307
                  go_wp2
                  go_roundg kj32
                  case measure => have := HK1.out; have := HJ9.out; have := HJ12.out; have := HJ32.out; omega
                  case rel => exact ⟨(x1_1), (x8_1), (wrap64 (x9_1 + 1)), (by first | with_reducible rfl | (simp only [pps, Nat.reduceAdd, Int.toNat_natCast]; done) | rfl | (simp; done) | (simp [*]; done)), H', ⟨by have := HK1.out; have := HJ9.out; have := HJ12.out; have := HJ32.out; omega⟩, ⟨by (with_reducible repeat (first | apply Kd.V_alloc | apply Kd.V_drewN | apply Kd.V_drew)); exact HO_1.out⟩, ⟨by (with_reducible repeat (first | apply Kd.R_alloc | apply Kd.R_drewN | apply Kd.R_drew)); exact HO_8.out⟩, ⟨by repeat (first | (with_reducible first | exact HB.out | apply below_alloc | apply pw_below_drewN | apply below_drew1) | exact HB.out)⟩⟩
                 ·
                  replace c54 := Bool.eq_false_iff.mpr c54
                  subst c54
                  have H1 : (some (x8_1, false)) = some (r1, r2) := by rw [if_neg (show ¬ (false = true) by decide)] at H; exact H
                  clear H
                  have H := H1
                  clear H1
                  simp only [Option.some.injEq, Prod.mk.injEq] at H
                  obtain ⟨rfl, rfl⟩ := H
                  have p307 : 0 ≤ (x9_1 : Int) := of_decide_eq_true (by first | (with_reducible assumption) | assumption)
                  have q307 : x9_1 < (l2.length : Int) := of_decide_eq_true (by first | (with_reducible assumption) | assumption)
                  obtain ⟨ad307, A307_2, c307_2, e307, hx307_0, hx307_1, hx307_2, hl307_2, hi307_2⟩ := at_T65 HR2.out x9_1 p307 q307
                  obtain rfl : ad278 = ad307 := (by injection e307)
                  replace hx307_0 := (HB.out.cell (World.block_lt_of_cell? w _ hx307_0)).trans hx307_0
                  replace hx307_1 := (HB.out.cell (World.block_lt_of_cell? w _ hx307_1)).trans hx307_1
                  replace hx307_2 := (HB.out.cell (World.block_lt_of_cell? w _ hx307_2)).trans hx307_2
                  have HR307_2 := Aside0.mk hi307_2
                  have HC307_2 := Aside0.mk hl307_2
                  clear hi307_2 hl307_2
                  replace p307 := eq_true p307
                  replace q307 := eq_true q307
                  go_wp2
                  go_ret2
                  exact ⟨_, by first | rfl | (simp [errW_none, errW_some] <;> rfl) | (simp [*, errW_none, errW_some] <;> rfl), by (with_reducible repeat (first | apply Kd.R_alloc | apply Kd.R_drewN | apply Kd.R_drew)); exact HO_8.out, by repeat (first | (with_reducible first | exact HB.out | apply below_alloc | apply pw_below_drewN | apply below_drew1) | exact HB.out)⟩
                ·
                 rw [if_neg c53] at H
                 have c53b0 : (((rd_T65 l2 x9_1).f0) == 3) = false := beq_eq_false_iff_ne.mpr c53
                 have c53b1 : (((rd_T65 l2 x9_1).f0) != 3) = true := bne_iff_ne.mpr c53
                 simp only [Option.some.injEq, Prod.mk.injEq] at H
                 obtain ⟨rfl, rfl⟩ := H
                 have p307 : 0 ≤ (x9_1 : Int) := of_decide_eq_true (by first | (with_reducible assumption) | assumption)
                 have q307 : x9_1 < (l2.length : Int) := of_decide_eq_true (by first | (with_reducible assumption) | assumption)
                 obtain ⟨ad307, A307_2, c307_2, e307, hx307_0, hx307_1, hx307_2, hl307_2, hi307_2⟩ := at_T65 HR2.out x9_1 p307 q307
                 obtain rfl : ad278 = ad307 := (by injection e307)
                 replace hx307_0 := (HB.out.cell (World.block_lt_of_cell? w _ hx307_0)).trans hx307_0
                 replace hx307_1 := (HB.out.cell (World.block_lt_of_cell? w _ hx307_1)).trans hx307_1
                 replace hx307_2 := (HB.out.cell (World.block_lt_of_cell? w _ hx307_2)).trans hx307_2
                 have HR307_2 := Aside0.mk hi307_2
                 have HC307_2 := Aside0.mk hl307_2
                 clear hi307_2 hl307_2
                 replace p307 := eq_true p307
                 replace q307 := eq_true q307
                 go_wp2
                 go_ret2
                 exact ⟨_, by first | rfl | (simp [errW_none, errW_some] <;> rfl) | (simp [*, errW_none, errW_some] <;> rfl), by (with_reducible repeat (first | apply Kd.R_alloc | apply Kd.R_drewN | apply Kd.R_drew)); exact HO_8.out, by repeat (first | (with_reducible first | exact HB.out | apply below_alloc | apply pw_below_drewN | apply below_drew1) | exact HB.out)⟩
               ·
                rw [if_neg c52] at H
                exact absurd H (by simp)
              ·
               rw [if_neg c51] at H
               exact absurd H (by simp)
     ·
      rw [if_neg c9] at H
      exact absurd H (by simp)
    ·
     rw [if_neg c8] at H
     have c8b0 : decide (x9_1 < (l2.length : Int)) = false := decide_eq_false c8
     clear c8
     simp only [Option.some.injEq, Prod.mk.injEq] at H
     obtain ⟨rfl, rfl⟩ := H
     go_wp2
     go_ret2
     exact ⟨_, by first | rfl | (simp [errW_none, errW_some] <;> rfl) | (simp [*, errW_none, errW_some] <;> rfl), by (with_reducible repeat (first | apply Kd.R_alloc | apply Kd.R_drewN | apply Kd.R_drew)); exact HO_8.out, by repeat (first | (with_reducible first | exact HB.out | apply below_alloc | apply pw_below_drewN | apply below_drew1) | exact HB.out)⟩
 ·
  rw [if_neg c4] at H
  exact absurd H (by simp)
end Go.Proofs.YtmpngedfnheilaaDoor.PP
