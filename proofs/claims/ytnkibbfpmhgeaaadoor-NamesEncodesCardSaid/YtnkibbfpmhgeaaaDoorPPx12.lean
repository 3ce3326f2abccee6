-- PRINTED by print.py (a twelfth state) out of the translation. Not trusted: Lean checks it.
import Derived.Test.YtnkibbfpmhgeaaaDoorPPx0
import Derived.Test.YtnkibbfpmhgeaaaDoorPPx9
import Derived.Test.YtnkibbfpmhgeaaaDoorPPx10
import Derived.Test.YtnkibbfpmhgeaaaDoorPPx11
namespace Go.Proofs.YtnkibbfpmhgeaaaDoor.PP
open Go.RowKit Go.Proofs.YtnkibbfpmhgeaaaDoorW.PrintWords Go.Proofs.YtnkibbfpmhgeaaaDoorW.PrintLast Go.Proofs.YtnkibbfpmhgeaaaDoorW.PrintMore
attribute [local go_sem] max2_int min2_int max_two min_two max_three min_three max_four min_four   -- for this text's walks alone
open Go.Proofs.YtnkibbfpmhgeaaaDoor.My
set_option linter.unusedVariables false
set_option linter.unusedSimpArgs false

/-! ### haversackref07_Decode: function 14 -/
mutual
def haversackref07_Decode.l0 : Nat → ByteArray → ByteArray → Int → Option (ByteArray × Int)
 | 0, _, _, _ => none
 | k + 1, x0, x4, x5 => if x5 < (x0.size : Int) then (if 0 ≤ x5 then (if (bt x0 x5) = 38 then (haversackref07_Decode.l1 k x0 x4 x5 0 0 ([] : List Int) (wrap64 (x5 + 1))) else (if x5 ≤ (wrap64 (x5 + 1)) then (if (wrap64 (x5 + 1)) ≤ (x0.size : Int) then (if x4.size + ((((wrap64 (x5 + 1)) : Int).toNat - (x5 : Int).toNat)) ≤ 9223372036854775807 then (haversackref07_Decode.l0 k x0 (x4 ++ (x0.extract (x5 : Int).toNat ((wrap64 (x5 + 1)) : Int).toNat)) (wrap64 (x5 + 1))) else (none)) else (none)) else (none))) else (none)) else ((haversackref07_Encode.f k x4).bind fun bt187 => (if bt187.2 = 0 then (if bt187.1.toList = x0.toList then (some (x4, 0)) else (some ((⟨#[]⟩ : ByteArray), 11))) else (some ((⟨#[]⟩ : ByteArray), 11))))
def haversackref07_Decode.l1 : Nat → ByteArray → ByteArray → Int → Int → Int → List Int → Int → Option (ByteArray × Int)
 | 0, _, _, _, _, _, _, _ => none
 | k + 1, x0, x4, x5, x6, x7, x8, x9 => if x9 < (x0.size : Int) then (if 0 ≤ x9 then (haversackref07_Decode.j2 k x0 x4 x5 x6 x7 x8 x9 ((bt x0 x9) != 45)) else (none)) else (haversackref07_Decode.j2 k x0 x4 x5 x6 x7 x8 x9 false)
def haversackref07_Decode.j2 : Nat → ByteArray → ByteArray → Int → Int → Int → List Int → Int → Bool → Option (ByteArray × Int)
 | 0, _, _, _, _, _, _, _, _ => none
 | k + 1, x0, x4, x5, x6, x7, x8, x9, x40 => if x40 = true then (if 0 ≤ x9 then (if x9 < (x0.size : Int) then ((haversackref07_Digit.f k (bt x0 x9)).bind fun t189 => (if t189 < 0 then (some ((⟨#[]⟩ : ByteArray), 11)) else ((haversackref07_Digit.f k (bt x0 x9)).bind fun t190 => (if (wrap64 (x7 + 6)) ≥ 16 then (if 0 ≤ (wrap64 ((wrap64 (x7 + 6)) - 16)) then (if x8.length < 17592186044416 then (haversackref07_Decode.l1 k x0 x4 x5 (wrap64 ((Int.tmod (wrap64 (x6 * 64)) 4194304) + t190)) (wrap64 ((wrap64 (x7 + 6)) - 16)) (x8 ++ [Int.tmod (shr .i64 (wrap64 ((Int.tmod (wrap64 (x6 * 64)) 4194304) + t190)) (wrap64 ((wrap64 (x7 + 6)) - 16))) 65536]) (wrap64 (x9 + 1))) else (none)) else (none)) else (haversackref07_Decode.l1 k x0 x4 x5 (wrap64 ((Int.tmod (wrap64 (x6 * 64)) 4194304) + t190)) (wrap64 (x7 + 6)) x8 (wrap64 (x9 + 1))))))) else (none)) else (none)) else (if x9 = (x0.size : Int) then (some ((⟨#[]⟩ : ByteArray), 11)) else (if x9 = (wrap64 (x5 + 1)) then (if x4.size + 1 ≤ 9223372036854775807 then (haversackref07_Decode.l0 k x0 (x4 ++ (⟨#[38]⟩ : ByteArray)) (wrap64 (x9 + 1))) else (none)) else ((haversackref07_letters.f k x8).bind fun t194 => (if x4.size + t194.size ≤ 9223372036854775807 then (haversackref07_Decode.l0 k x0 (x4 ++ t194) (wrap64 (x9 + 1))) else (none)))))
end
def haversackref07_Decode.f (k : Nat) (a0 : ByteArray) : Option (ByteArray × Int) := haversackref07_Decode.l0 k a0 (⟨#[]⟩ : ByteArray) 0
theorem haversackref07_Decode.mono_l : ∀ k, (∀ y0 y1 y2, LeO (haversackref07_Decode.l0 k y0 y1 y2) (haversackref07_Decode.l0 (k + 1) y0 y1 y2)) ∧ (∀ y0 y1 y2 y3 y4 y5 y6, LeO (haversackref07_Decode.l1 k y0 y1 y2 y3 y4 y5 y6) (haversackref07_Decode.l1 (k + 1) y0 y1 y2 y3 y4 y5 y6)) ∧ (∀ y0 y1 y2 y3 y4 y5 y6 y7, LeO (haversackref07_Decode.j2 k y0 y1 y2 y3 y4 y5 y6 y7) (haversackref07_Decode.j2 (k + 1) y0 y1 y2 y3 y4 y5 y6 y7))
 | 0 => ⟨fun _ _ _ r h => by simp [haversackref07_Decode.l0] at h, fun _ _ _ _ _ _ _ r h => by simp [haversackref07_Decode.l1] at h, fun _ _ _ _ _ _ _ _ r h => by simp [haversackref07_Decode.j2] at h⟩
 | k + 1 => by
  obtain ⟨ih0, ih1, ih2⟩ := haversackref07_Decode.mono_l k
  refine ⟨?_, ?_, ?_⟩
  ·
   intro y0 y1 y2
   unfold haversackref07_Decode.l0
   repeat' first
   | (with_reducible exact ih0 _ _ _)
   | (with_reducible exact ih1 _ _ _ _ _ _ _)
   | (with_reducible exact ih2 _ _ _ _ _ _ _ _)
   | (with_reducible exact haversackref07_Digit.mono _ _)
   | (with_reducible exact haversackref07_Encode.mono _ _)
   | (with_reducible exact haversackref07_letters.mono _ _)
   | (with_reducible exact LeO.refl _)
   | (with_reducible exact LeO.none _)
   | (with_reducible refine LeO.ite ?_ ?_)
   | (with_reducible refine LeO.bind ?_ (fun _ => ?_))
   | exact ih0 _ _ _
   | exact ih1 _ _ _ _ _ _ _
   | exact ih2 _ _ _ _ _ _ _ _
   | exact haversackref07_Digit.mono _ _
   | exact haversackref07_Encode.mono _ _
   | exact haversackref07_letters.mono _ _
   | exact LeO.none _
   | refine LeO.ite ?_ ?_
   | refine LeO.bind ?_ (fun _ => ?_)
  ·
   intro y0 y1 y2 y3 y4 y5 y6
   unfold haversackref07_Decode.l1
   repeat' first
   | (with_reducible exact ih0 _ _ _)
   | (with_reducible exact ih1 _ _ _ _ _ _ _)
   | (with_reducible exact ih2 _ _ _ _ _ _ _ _)
   | (with_reducible exact haversackref07_Digit.mono _ _)
   | (with_reducible exact haversackref07_Encode.mono _ _)
   | (with_reducible exact haversackref07_letters.mono _ _)
   | (with_reducible exact LeO.refl _)
   | (with_reducible exact LeO.none _)
   | (with_reducible refine LeO.ite ?_ ?_)
   | (with_reducible refine LeO.bind ?_ (fun _ => ?_))
   | exact ih0 _ _ _
   | exact ih1 _ _ _ _ _ _ _
   | exact ih2 _ _ _ _ _ _ _ _
   | exact haversackref07_Digit.mono _ _
   | exact haversackref07_Encode.mono _ _
   | exact haversackref07_letters.mono _ _
   | exact LeO.none _
   | refine LeO.ite ?_ ?_
   | refine LeO.bind ?_ (fun _ => ?_)
  ·
   intro y0 y1 y2 y3 y4 y5 y6 y7
   unfold haversackref07_Decode.j2
   repeat' first
   | (with_reducible exact ih0 _ _ _)
   | (with_reducible exact ih1 _ _ _ _ _ _ _)
   | (with_reducible exact ih2 _ _ _ _ _ _ _ _)
   | (with_reducible exact haversackref07_Digit.mono _ _)
   | (with_reducible exact haversackref07_Encode.mono _ _)
   | (with_reducible exact haversackref07_letters.mono _ _)
   | (with_reducible exact LeO.refl _)
   | (with_reducible exact LeO.none _)
   | (with_reducible refine LeO.ite ?_ ?_)
   | (with_reducible refine LeO.bind ?_ (fun _ => ?_))
   | exact ih0 _ _ _
   | exact ih1 _ _ _ _ _ _ _
   | exact ih2 _ _ _ _ _ _ _ _
   | exact haversackref07_Digit.mono _ _
   | exact haversackref07_Encode.mono _ _
   | exact haversackref07_letters.mono _ _
   | exact LeO.none _
   | refine LeO.ite ?_ ?_
   | refine LeO.bind ?_ (fun _ => ?_)
theorem haversackref07_Decode.mono : ∀ a0 k, LeO (haversackref07_Decode.f k a0) (haversackref07_Decode.f (k + 1) a0) := by
 intro a0 k
 obtain ⟨ih0, ih1, ih2⟩ := haversackref07_Decode.mono_l k
 unfold haversackref07_Decode.f
 repeat' first
   | (with_reducible exact ih0 _ _ _)
   | (with_reducible exact ih1 _ _ _ _ _ _ _)
   | (with_reducible exact ih2 _ _ _ _ _ _ _ _)
   | (with_reducible exact haversackref07_Digit.mono _ _)
   | (with_reducible exact haversackref07_Encode.mono _ _)
   | (with_reducible exact haversackref07_letters.mono _ _)
   | (with_reducible exact LeO.refl _)
   | (with_reducible exact LeO.none _)
   | (with_reducible refine LeO.ite ?_ ?_)
   | (with_reducible refine LeO.bind ?_ (fun _ => ?_))
   | exact ih0 _ _ _
   | exact ih1 _ _ _ _ _ _ _
   | exact ih2 _ _ _ _ _ _ _ _
   | exact haversackref07_Digit.mono _ _
   | exact haversackref07_Encode.mono _ _
   | exact haversackref07_letters.mono _ _
   | exact LeO.none _
   | refine LeO.ite ?_ ?_
   | refine LeO.bind ?_ (fun _ => ?_)
set_option maxHeartbeats 8000000 in
set_option maxRecDepth 100000 in
theorem haversackref07_Decode.calls (k : Nat) (a0 : ByteArray) (r1 : ByteArray) (r2 : Int) (w : World) (h : haversackref07_Decode.f k a0 = some (r1, r2)) (hT : Tabs w) :
  Calls Tryd.prog 14 #[.string a0] w fun e w' => e = .returned (.tuple #[.string r1, .int .i64 r2]) ∧ Below w.heap.size w w' := by
 have HT := Aside0.mk hT
 clear hT
 have HB := Aside0.mk (Below.refl w.heap.size w)
 have H : (haversackref07_Decode.l0 k a0 (⟨#[]⟩ : ByteArray) 0) = some (r1, r2) := h
 clear h
 have H' := Aside0.mk H
 clear H
 go_enter Tryd.func14, Tryd.ntmps14
 go_wp2
 go_loopg [4, 5] k (fun kq v4 v5 w' => ∃ (x4_1 : ByteArray) (x5_1 : Int), v4 = .string x4_1 ∧ v5 = .int .i64 x5_1 ∧ Aside0 (haversackref07_Decode.l0 kq a0 x4_1 x5_1 = some (r1, r2)) ∧ Aside0 (kq ≤ k) ∧ Aside0 (Below w.heap.size w w'))
 case atStart => exact ⟨((⟨#[]⟩ : ByteArray)), (0), (by first | with_reducible rfl | (simp only [pps, Nat.reduceAdd, Int.toNat_natCast]; done) | rfl | (simp; done) | (simp [*]; done)), (by first | with_reducible rfl | (simp only [pps, Nat.reduceAdd, Int.toNat_natCast]; done) | rfl | (simp; done) | (simp [*]; done)), H', ⟨Nat.le_refl _⟩, ⟨by repeat (first | (with_reducible first | exact HB.out | apply below_alloc | apply pw_below_drewN | apply below_drew1) | exact HB.out)⟩⟩
 case round =>
  clear H'
  try clear c1
  obtain ⟨x4_1, x5_1, rfl, rfl, HA, HK1, HB⟩ := hrel
  cases gk with
  | zero => exact absurd HA.out (by simp [haversackref07_Decode.l0])
  | succ k1 =>
   have H := HA.out
   clear HA
   simp only [haversackref07_Decode.l0] at H
   by_cases c2 : x5_1 < (a0.size : Int)
   ·
    rw [if_pos c2] at H
    have c2b0 : decide (x5_1 < (a0.size : Int)) = true := decide_eq_true c2
    clear c2
    by_cases c3 : 0 ≤ x5_1
    ·
     rw [if_pos c3] at H
     have c3b0 : decide (0 ≤ x5_1) = true := decide_eq_true c3
     clear c3
     by_cases c5 : (bt a0 x5_1) = 38
     ·
      rw [if_pos c5] at H
      have c5b0 : ((bt a0 x5_1) == 38) = true := beq_iff_eq.mpr c5
      have c5b1 : ((bt a0 x5_1) != 38) = false := bne_eq_false_iff_eq.mpr c5
      clear c5
      have H' := Aside0.mk H
      clear H
      have p4 : 0 ≤ (x5_1 : Int) := of_decide_eq_true (by first | (with_reducible assumption) | assumption)
      have q4 : x5_1 < (a0.size : Int) := of_decide_eq_true (by first | (with_reducible assumption) | assumption)
      have hx4 := bt_at a0 x5_1
      replace p4 := eq_true p4
      replace q4 := eq_true q4
      go_wp2
      go_loopg [6, 7, 8, 9] k1 (fun kq v6 v7 v8 v9 w' => ∃ (x6_2 : Int) (x7_2 : Int) (x8_2 : List Int) (x9_2 : Int), v6 = .int .i64 x6_2 ∧ v7 = .int .i64 x7_2 ∧ v9 = .int .i64 x9_2 ∧ Aside0 (haversackref07_Decode.l1 kq a0 x4_1 x5_1 x6_2 x7_2 x8_2 x9_2 = some (r1, r2)) ∧ Aside0 (kq ≤ k1) ∧ Aside0 (Kd.R (Kd.int .i64) 3 w' w.heap.size (fun _ => True) v8 x8_2) ∧ Aside0 (Below w.heap.size w w'))
      case atStart => exact ⟨(0), (0), (([] : List Int)), (wrap64 (x5_1 + 1)), (by first | with_reducible rfl | (simp only [pps, Nat.reduceAdd, Int.toNat_natCast]; done) | rfl | (simp; done) | (simp [*]; done)), (by first | with_reducible rfl | (simp only [pps, Nat.reduceAdd, Int.toNat_natCast]; done) | rfl | (simp; done) | (simp [*]; done)), (by first | with_reducible rfl | (simp only [pps, Nat.reduceAdd, Int.toNat_natCast]; done) | rfl | (simp; done) | (simp [*]; done)), H', ⟨Nat.le_refl _⟩, ⟨by first | exact Kd.R_nil _ _ _ _ _ | exact Kd.N_nil _ _ _ _ _ | exact Kd.V_nil _ _ _ _ _ | exact Kd.Q_nil _ _ _ _ _ | exact Kd.S_nil _ _ _ _ _⟩, ⟨by repeat (first | (with_reducible first | exact HB.out | apply below_alloc | apply pw_below_drewN | apply below_drew1) | exact HB.out)⟩⟩
      case round =>
       clear H'
       try clear c1
       try clear c2
       try clear c2b0
       try clear p2
       try clear c3
       try clear c3b0
       try clear p4
       try clear q4
       try clear hx4
       try clear c5
       try clear c5b0
       try clear c5b1
       try clear p4
       try clear q4
       obtain ⟨x6_2, x7_2, x8_2, x9_2, rfl, rfl, rfl, HA, HK2, HO_8, HB⟩ := hrel
       cases gk with
       | zero => exact absurd HA.out (by simp [haversackref07_Decode.l1])
       | succ k2 =>
        have H := HA.out
        clear HA
        simp only [haversackref07_Decode.l1] at H
        have HC6 := Aside0.mk H
        clear H
        go_upto_region 10 with (fail)
        go_cut [40] (fun v40 wc => ∃ (kq : Nat) (x40_5 : Bool), v40 = .bool x40_5 ∧ Aside0 (haversackref07_Decode.j2 kq a0 x4_1 x5_1 x6_2 x7_2 x8_2 x9_2 x40_5 = some (r1, r2)) ∧ Aside0 (kq ≤ k2) ∧ Aside0 (Kd.R (Kd.int .i64) 3 wc w.heap.size (fun _ => True) u8 x8_2) ∧ Aside0 (Below w.heap.size w wc))
        case first =>
         have H := HC6.out
         clear HC6
         by_cases c7 : x9_2 < (a0.size : Int)
         ·
          rw [if_pos c7] at H
          have c7b0 : decide (x9_2 < (a0.size : Int)) = true := decide_eq_true c7
          clear c7
          (first | rw [c7b0] | (simp only [i64_w, i32_w]; rw [c7b0]) | skip)
          by_cases c8 : 0 ≤ x9_2
          ·
           rw [if_pos c8] at H
           have c8b0 : decide (0 ≤ x9_2) = true := decide_eq_true c8
           clear c8
           have H' := Aside0.mk H
           clear H
           have p9 : 0 ≤ (x9_2 : Int) := of_decide_eq_true (by first | (with_reducible assumption) | assumption)
           have q9 : x9_2 < (a0.size : Int) := of_decide_eq_true (by first | (with_reducible assumption) | assumption)
           have hx9 := bt_at a0 x9_2
           replace p9 := eq_true p9
           replace q9 := eq_true q9
           go_wp2
           go_meet
           case rel => exact ⟨_, (((bt a0 x9_2) != 45)), (by first | with_reducible rfl | (simp only [pps, Nat.reduceAdd, Int.toNat_natCast]; done) | rfl | (simp; done) | (simp [*]; done)), H', ⟨by have := HK1.out; have := HK2.out; first | omega | exact Nat.le_refl _⟩, ⟨by (with_reducible repeat (first | apply Kd.R_alloc | apply Kd.R_drewN | apply Kd.R_drew)); exact HO_8.out⟩, ⟨by repeat (first | (with_reducible first | exact HB.out | apply below_alloc | apply pw_below_drewN | apply below_drew1) | exact HB.out)⟩⟩
          ·
           rw [if_neg c8] at H
           exact absurd H (by simp)
         ·
          rw [if_neg c7] at H
          have c7b0 : decide (x9_2 < (a0.size : Int)) = false := decide_eq_false c7
          clear c7
          (first | rw [c7b0] | (simp only [i64_w, i32_w]; rw [c7b0]) | skip)
          have H' := Aside0.mk H
          clear H
          go_wp2
          go_meet
          case rel => exact ⟨_, (false), (by first | with_reducible rfl | (simp only [pps, Nat.reduceAdd, Int.toNat_natCast]; done) | rfl | (simp; done) | (simp [*]; done)), H', ⟨by have := HK1.out; have := HK2.out; first | omega | exact Nat.le_refl _⟩, ⟨by (with_reducible repeat (first | apply Kd.R_alloc | apply Kd.R_drewN | apply Kd.R_drew)); exact HO_8.out⟩, ⟨by repeat (first | (with_reducible first | exact HB.out | apply below_alloc | apply pw_below_drewN | apply below_drew1) | exact HB.out)⟩⟩
        case rest =>
         clear HC6
         try clear c1
         try clear c2
         try clear c2b0
         try clear p2
         try clear c3
         try clear c3b0
         try clear p4
         try clear q4
         try clear hx4
         try clear c5
         try clear c5b0
         try clear c5b1
         try clear p6
         try clear c7
         try clear c7b0
         try clear c8
         try clear c8b0
         try clear p9
         try clear q9
         try clear hx9
         try clear p2
         try clear p4
         try clear p9
         try clear q4
         try clear q9
         obtain ⟨kq, x40_5, rfl, HA, HJ5, HO_8, HB⟩ := hcut
         cases kq with
         | zero => exact absurd HA.out (by simp [haversackref07_Decode.j2])
         | succ kj5 =>
          have H := HA.out
          clear HA
          simp only [haversackref07_Decode.j2] at H
          by_cases c10 : x40_5 = true
          ·
           subst c10
           have H1 : (if 0 ≤ x9_2 then (if x9_2 < (a0.size : Int) then ((haversackref07_Digit.f kj5 (bt a0 x9_2)).bind fun t189 => (if t189 < 0 then (some ((⟨#[]⟩ : ByteArray), 11)) else ((haversackref07_Digit.f kj5 (bt a0 x9_2)).bind fun t190 => (if (wrap64 (x7_2 + 6)) ≥ 16 then (if 0 ≤ (wrap64 ((wrap64 (x7_2 + 6)) - 16)) then (if x8_2.length < 17592186044416 then (haversackref07_Decode.l1 kj5 a0 x4_1 x5_1 (wrap64 ((Int.tmod (wrap64 (x6_2 * 64)) 4194304) + t190)) (wrap64 ((wrap64 (x7_2 + 6)) - 16)) (x8_2 ++ [Int.tmod (shr .i64 (wrap64 ((Int.tmod (wrap64 (x6_2 * 64)) 4194304) + t190)) (wrap64 ((wrap64 (x7_2 + 6)) - 16))) 65536]) (wrap64 (x9_2 + 1))) else (none)) else (none)) else (haversackref07_Decode.l1 kj5 a0 x4_1 x5_1 (wrap64 ((Int.tmod (wrap64 (x6_2 * 64)) 4194304) + t190)) (wrap64 (x7_2 + 6)) x8_2 (wrap64 (x9_2 + 1))))))) else (none)) else (none)) = some (r1, r2) := by rw [if_pos rfl] at H; exact H
           clear H
           have H := H1
           clear H1
           by_cases c11 : 0 ≤ x9_2
           ·
            rw [if_pos c11] at H
            have c11b0 : decide (0 ≤ x9_2) = true := decide_eq_true c11
            clear c11
            by_cases c12 : x9_2 < (a0.size : Int)
            ·
             rw [if_pos c12] at H
             have c12b0 : decide (x9_2 < (a0.size : Int)) = true := decide_eq_true c12
             clear c12
             replace H := Option.bind_eq_some_iff.mp H
             obtain ⟨t189, A140, H⟩ := H
             replace H : (if t189 < 0 then (some ((⟨#[]⟩ : ByteArray), 11)) else ((haversackref07_Digit.f kj5 (bt a0 x9_2)).bind fun t190 => (if (wrap64 (x7_2 + 6)) ≥ 16 then (if 0 ≤ (wrap64 ((wrap64 (x7_2 + 6)) - 16)) then (if x8_2.length < 17592186044416 then (haversackref07_Decode.l1 kj5 a0 x4_1 x5_1 (wrap64 ((Int.tmod (wrap64 (x6_2 * 64)) 4194304) + t190)) (wrap64 ((wrap64 (x7_2 + 6)) - 16)) (x8_2 ++ [Int.tmod (shr .i64 (wrap64 ((Int.tmod (wrap64 (x6_2 * 64)) 4194304) + t190)) (wrap64 ((wrap64 (x7_2 + 6)) - 16))) 65536]) (wrap64 (x9_2 + 1))) else (none)) else (none)) else (haversackref07_Decode.l1 kj5 a0 x4_1 x5_1 (wrap64 ((Int.tmod (wrap64 (x6_2 * 64)) 4194304) + t190)) (wrap64 (x7_2 + 6)) x8_2 (wrap64 (x9_2 + 1)))))) = some (r1, r2) := H
             have A14 := Aside0.mk A140
             clear A140
             by_cases c15 : t189 < 0
             ·
              rw [if_pos c15] at H
              have c15b0 : decide (t189 < 0) = true := decide_eq_true c15
              clear c15
              simp only [Option.some.injEq, Prod.mk.injEq] at H
              obtain ⟨rfl, rfl⟩ := H
              have p13 : 0 ≤ (x9_2 : Int) := of_decide_eq_true (by first | (with_reducible assumption) | assumption)
              have q13 : x9_2 < (a0.size : Int) := of_decide_eq_true (by first | (with_reducible assumption) | assumption)
              have hx13 := bt_at a0 x9_2
              replace p13 := eq_true p13
              replace q13 := eq_true q13
              go_wp2_with (first | ((with_reducible refine gate_callee (f := 47) rfl ?_); refine goesL_ (some 44) rfl rfl Tryd.func47 (by kernel_rfl) rfl #[.int .u8 (bt a0 x9_2)] rfl (by (try simp only [List.map_toArray, List.map_cons, List.map_nil]); first | done | rfl | (simp only [List.length_drop, List.length_take]; rfl)) ?_; (with_reducible refine (haversackref07_Digit.calls kj5 (bt a0 x9_2) t189 _ A14.out).mono ?_); rintro e w' ⟨rfl, ⟨nd, rfl⟩⟩; refine ⟨_, rfl, ?_⟩))
              go_ret2
              exact ⟨by first | rfl | (simp [errW_none, errW_some] <;> rfl) | (simp [*, errW_none, errW_some] <;> rfl), by repeat (first | (with_reducible first | exact HB.out | apply below_alloc | apply pw_below_drewN | apply below_drew1) | exact HB.out)⟩
             ·
              rw [if_neg c15] at H
              have c15b0 : decide (t189 < 0) = false := decide_eq_false c15
              clear c15
              replace H := Option.bind_eq_some_iff.mp H
              obtain ⟨t190, A170, H⟩ := H
              replace H : (if (wrap64 (x7_2 + 6)) ≥ 16 then (if 0 ≤ (wrap64 ((wrap64 (x7_2 + 6)) - 16)) then (if x8_2.length < 17592186044416 then (haversackref07_Decode.l1 kj5 a0 x4_1 x5_1 (wrap64 ((Int.tmod (wrap64 (x6_2 * 64)) 4194304) + t190)) (wrap64 ((wrap64 (x7_2 + 6)) - 16)) (x8_2 ++ [Int.tmod (shr .i64 (wrap64 ((Int.tmod (wrap64 (x6_2 * 64)) 4194304) + t190)) (wrap64 ((wrap64 (x7_2 + 6)) - 16))) 65536]) (wrap64 (x9_2 + 1))) else (none)) else (none)) else (haversackref07_Decode.l1 kj5 a0 x4_1 x5_1 (wrap64 ((Int.tmod (wrap64 (x6_2 * 64)) 4194304) + t190)) (wrap64 (x7_2 + 6)) x8_2 (wrap64 (x9_2 + 1)))) = some (r1, r2) := H
              have A17 := Aside0.mk A170
              clear A170
              by_cases c18 : (wrap64 (x7_2 + 6)) ≥ 16
              ·
               rw [if_pos c18] at H
               have c18b0 : decide (16 ≤ (wrap64 (x7_2 + 6))) = true := decide_eq_true c18
               clear c18
               obtain ⟨ji19, hji19⟩ : ∃ j_ : Int, (wrap64 ((wrap64 (x7_2 + 6)) - 16)) = j_ := ⟨_, rfl⟩
               replace H : (if 0 ≤ (ji19) then (if x8_2.length < 17592186044416 then (haversackref07_Decode.l1 kj5 a0 x4_1 x5_1 (wrap64 ((Int.tmod (wrap64 (x6_2 * 64)) 4194304) + t190)) ji19 (x8_2 ++ [Int.tmod (shr .i64 (wrap64 ((Int.tmod (wrap64 (x6_2 * 64)) 4194304) + t190)) (ji19)) 65536]) (wrap64 (x9_2 + 1))) else (none)) else (none)) = some (r1, r2) := by first | (rw [hji19] at H; exact H) | (simp only [hji19] at H ⊢; exact H)
               (try rw [hji19] at A14)
               (try rw [hji19] at A17)
               have hji19w : (IntKind.i64.wrap ((wrap64 (x7_2 + 6)) - 16)) = ji19 := (i64_w _).trans hji19
               by_cases c20 : 0 ≤ (ji19)
               ·
                rw [if_pos c20] at H
                have c20b0 := eq_true c20
                have c20b1 : decide (0 ≤ (ji19)) = true := decide_eq_true c20
                clear c20
                obtain ⟨ji21, hji21⟩ : ∃ j_ : Int, (shr .i64 (wrap64 ((Int.tmod (wrap64 (x6_2 * 64)) 4194304) + t190)) (ji19)) = j_ := ⟨_, rfl⟩
                replace H : (if x8_2.length < 17592186044416 then (haversackref07_Decode.l1 kj5 a0 x4_1 x5_1 (wrap64 ((Int.tmod (wrap64 (x6_2 * 64)) 4194304) + t190)) ji19 (x8_2 ++ [Int.tmod (ji21) 65536]) (wrap64 (x9_2 + 1))) else (none)) = some (r1, r2) := by first | (rw [hji21] at H; exact H) | (simp only [hji21] at H ⊢; exact H)
                (try rw [hji21] at A14)
                (try rw [hji21] at A17)
                have hji21_ : ((wrap64 ((Int.tmod (wrap64 (x6_2 * 64)) 4194304) + t190)) / 2 ^ min (ji19).toNat 64) = ji21 := hji21
                have hji21z : (ji19) ≤ 64 → ((wrap64 ((Int.tmod (wrap64 (x6_2 * 64)) 4194304) + t190)) / 2 ^ (ji19).toNat) = ji21 := shr_small hji21
                by_cases c22 : x8_2.length < 17592186044416
                ·
                 rw [if_pos c22] at H
                 have LMc22 := Aside0.mk c22
                 clear c22
                 obtain ⟨y191, hy191⟩ : ∃ y_ : List Int, y_ = (x8_2 ++ [Int.tmod (ji21) 65536]) := ⟨_, rfl⟩
                 replace H : (haversackref07_Decode.l1 kj5 a0 x4_1 x5_1 (wrap64 ((Int.tmod (wrap64 (x6_2 * 64)) 4194304) + t190)) ji19 y191 (wrap64 (x9_2 + 1))) = some (r1, r2) := by first | (rw [hy191]; with_reducible exact H) | (have H2_ := (Option.bind_some _ _).symm.trans H; rw [hy191]; with_reducible exact H2_) | (have H2_ := (Option.bind_some _ _).symm.trans H; with_reducible exact H2_) | with_reducible exact H | (rw [hy191]; exact H) | exact H
                 have Ny191 := Aside0.mk hy191
                 clear hy191
                 have H' := Aside0.mk H
                 clear H
                 have p13 : 0 ≤ (x9_2 : Int) := of_decide_eq_true (by first | (with_reducible assumption) | assumption)
                 have q13 : x9_2 < (a0.size : Int) := of_decide_eq_true (by first | (with_reducible assumption) | assumption)
                 have hx13 := bt_at a0 x9_2
                 replace p13 := eq_true p13
                 replace q13 := eq_true q13
                 go_wp2_with (first | ((with_reducible refine gate_callee (f := 47) rfl ?_); refine goesL_ (some 44) rfl rfl Tryd.func47 (by kernel_rfl) rfl #[.int .u8 (bt a0 x9_2)] rfl (by (try simp only [List.map_toArray, List.map_cons, List.map_nil]); first | done | rfl | (simp only [List.length_drop, List.length_take]; rfl)) ?_; (with_reducible refine (haversackref07_Digit.calls kj5 (bt a0 x9_2) t189 _ A14.out).mono ?_); rintro e w' ⟨rfl, ⟨nd, rfl⟩⟩; refine ⟨_, rfl, ?_⟩; have p16 : 0 ≤ (x9_2 : Int) := of_decide_eq_true (by first | (with_reducible assumption) | assumption); have q16 : x9_2 < (a0.size : Int) := of_decide_eq_true (by first | (with_reducible assumption) | assumption); have hx16 := bt_at a0 x9_2; replace p16 := eq_true p16; replace q16 := eq_true q16) | ((with_reducible refine gate_callee (f := 47) rfl ?_); refine goesL_ (some 52) rfl rfl Tryd.func47 (by kernel_rfl) rfl #[.int .u8 (bt a0 x9_2)] rfl (by (try simp only [List.map_toArray, List.map_cons, List.map_nil]); first | done | rfl | (simp only [List.length_drop, List.length_take]; rfl)) ?_; (with_reducible refine (haversackref07_Digit.calls kj5 (bt a0 x9_2) t190 _ A17.out).mono ?_); rintro e w' ⟨rfl, ⟨nd, rfl⟩⟩; refine ⟨_, rfl, ?_⟩) | ((with_reducible refine gate_builtin (b := .append) (xs := #[.tmp 60, .tmp 65]) rfl ?_); at_builtin; refine Kd.R_append (Kd.int .i64) (w0 := w) w.heap.size rfl (.tmp 60) (.tmp 65) 51 3 (.int .i64 0) 8 rfl Tryd.underlying51 info3 rfl (by decide) (by omega) u8 x8_2 (Int.tmod (ji21) 65536) [.int .i64 (Int.tmod (ji21) 65536)] (fun _ => True) (fun _ => False) rfl rfl ?aP (fun _ hk => hk.elim) ?aF ?aO ?aB ?aS ?aL ?_; (case aP => exact rfl); (case aB => exact (by repeat (first | (with_reducible first | exact HB.out | apply below_alloc | apply pw_below_drewN | apply below_drew1) | exact HB.out))); (case aF => exact (fun _ _ => trivial)); (case aO => exact (by (with_reducible repeat (first | apply Kd.R_alloc | apply Kd.R_drewN | apply Kd.R_drew)); exact HO_8.out)); (case aS => exact (below_size (by repeat (first | (with_reducible first | exact HB.out | apply below_alloc | apply pw_below_drewN | apply below_drew1) | exact HB.out)))); (case aL => have := LMc22.out; omega); intro v192 w23 ho hb hg hat; rw [← Ny191.out] at ho; have n0_ := Aside0.mk (hb); have n1_ := Aside0.mk (ho); clear HB; clear HO_8; have HB := n0_; have HO193 := n1_; clear n0_ n1_; clear ho hb hg hat))
                 go_roundg kj5
                 case measure => have := HK1.out; have := HK2.out; have := HJ5.out; omega
                 case rel => exact ⟨(wrap64 ((Int.tmod (wrap64 (x6_2 * 64)) 4194304) + t190)), (ji19), (y191), (wrap64 (x9_2 + 1)), (by first | with_reducible rfl | (simp only [pps, Nat.reduceAdd, Int.toNat_natCast]; done) | rfl | (simp; done) | (simp [*]; done)), (by first | with_reducible rfl | (simp only [pps, Nat.reduceAdd, Int.toNat_natCast]; done) | rfl | (simp; done) | (simp only [← hji19] <;> (first | rfl | simp)) | (simp [*]; done)), (by first | with_reducible rfl | (simp only [pps, Nat.reduceAdd, Int.toNat_natCast]; done) | rfl | (simp; done) | (simp [*]; done)), H', ⟨by have := HK1.out; have := HK2.out; have := HJ5.out; omega⟩, ⟨by (with_reducible repeat (first | apply Kd.R_alloc | apply Kd.R_drewN | apply Kd.R_drew)); exact HO193.out⟩, ⟨by repeat (first | (with_reducible first | exact HB.out | apply below_alloc | apply pw_below_drewN | apply below_drew1) | exact HB.out)⟩⟩
                ·
                 rw [if_neg c22] at H
                 exact absurd H (by simp)
               ·
                rw [if_neg c20] at H
                exact absurd H (by simp)
              ·
               rw [if_neg c18] at H
               have c18b0 : decide (16 ≤ (wrap64 (x7_2 + 6))) = false := decide_eq_false c18
               clear c18
               have H' := Aside0.mk H
               clear H
               have p13 : 0 ≤ (x9_2 : Int) := of_decide_eq_true (by first | (with_reducible assumption) | assumption)
               have q13 : x9_2 < (a0.size : Int) := of_decide_eq_true (by first | (with_reducible assumption) | assumption)
               have hx13 := bt_at a0 x9_2
               replace p13 := eq_true p13
               replace q13 := eq_true q13
               go_wp2_with (first | ((with_reducible refine gate_callee (f := 47) rfl ?_); refine goesL_ (some 44) rfl rfl Tryd.func47 (by kernel_rfl) rfl #[.int .u8 (bt a0 x9_2)] rfl (by (try simp only [List.map_toArray, List.map_cons, List.map_nil]); first | done | rfl | (simp only [List.length_drop, List.length_take]; rfl)) ?_; (with_reducible refine (haversackref07_Digit.calls kj5 (bt a0 x9_2) t189 _ A14.out).mono ?_); rintro e w' ⟨rfl, ⟨nd, rfl⟩⟩; refine ⟨_, rfl, ?_⟩; have p16 : 0 ≤ (x9_2 : Int) := of_decide_eq_true (by first | (with_reducible assumption) | assumption); have q16 : x9_2 < (a0.size : Int) := of_decide_eq_true (by first | (with_reducible assumption) | assumption); have hx16 := bt_at a0 x9_2; replace p16 := eq_true p16; replace q16 := eq_true q16) | ((with_reducible refine gate_callee (f := 47) rfl ?_); refine goesL_ (some 52) rfl rfl Tryd.func47 (by kernel_rfl) rfl #[.int .u8 (bt a0 x9_2)] rfl (by (try simp only [List.map_toArray, List.map_cons, List.map_nil]); first | done | rfl | (simp only [List.length_drop, List.length_take]; rfl)) ?_; (with_reducible refine (haversackref07_Digit.calls kj5 (bt a0 x9_2) t190 _ A17.out).mono ?_); rintro e w' ⟨rfl, ⟨nd, rfl⟩⟩; refine ⟨_, rfl, ?_⟩))
               go_roundg kj5
               case measure => have := HK1.out; have := HK2.out; have := HJ5.out; omega
               case rel => exact ⟨(wrap64 ((Int.tmod (wrap64 (x6_2 * 64)) 4194304) + t190)), (wrap64 (x7_2 + 6)), (x8_2), (wrap64 (x9_2 + 1)), (by first | with_reducible rfl | (simp only [pps, Nat.reduceAdd, Int.toNat_natCast]; done) | rfl | (simp; done) | (simp [*]; done)), (by first | with_reducible rfl | (simp only [pps, Nat.reduceAdd, Int.toNat_natCast]; done) | rfl | (simp; done) | (simp [*]; done)), (by first | with_reducible rfl | (simp only [pps, Nat.reduceAdd, Int.toNat_natCast]; done) | rfl | (simp; done) | (simp [*]; done)), H', ⟨by have := HK1.out; have := HK2.out; have := HJ5.out; omega⟩, ⟨by (with_reducible repeat (first | apply Kd.R_alloc | apply Kd.R_drewN | apply Kd.R_drew)); exact HO_8.out⟩, ⟨by repeat (first | (with_reducible first | exact HB.out | apply below_alloc | apply pw_below_drewN | apply below_drew1) | exact HB.out)⟩⟩
            ·
             rw [if_neg c12] at H
             exact absurd H (by simp)
           ·
            rw [if_neg c11] at H
            exact absurd H (by simp)
          ·
           replace c10 := Bool.eq_false_iff.mpr c10
           subst c10
           have H1 : (if x9_2 = (a0.size : Int) then (some ((⟨#[]⟩ : ByteArray), 11)) else (if x9_2 = (wrap64 (x5_1 + 1)) then (if x4_1.size + 1 ≤ 9223372036854775807 then (haversackref07_Decode.l0 kj5 a0 (x4_1 ++ (⟨#[38]⟩ : ByteArray)) (wrap64 (x9_2 + 1))) else (none)) else ((haversackref07_letters.f kj5 x8_2).bind fun t194 => (if x4_1.size + t194.size ≤ 9223372036854775807 then (haversackref07_Decode.l0 kj5 a0 (x4_1 ++ t194) (wrap64 (x9_2 + 1))) else (none))))) = some (r1, r2) := by rw [if_neg (show ¬ (false = true) by decide)] at H; exact H
           clear H
           have H := H1
           clear H1
           by_cases c24 : x9_2 = (a0.size : Int)
           ·
            rw [if_pos c24] at H
            have c24b0 : (x9_2 == (a0.size : Int)) = true := beq_iff_eq.mpr c24
            have c24b1 : (x9_2 != (a0.size : Int)) = false := bne_eq_false_iff_eq.mpr c24
            clear c24
            simp only [Option.some.injEq, Prod.mk.injEq] at H
            obtain ⟨rfl, rfl⟩ := H
            go_wp2
            go_ret2
            exact ⟨by first | rfl | (simp [errW_none, errW_some] <;> rfl) | (simp [*, errW_none, errW_some] <;> rfl), by repeat (first | (with_reducible first | exact HB.out | apply below_alloc | apply pw_below_drewN | apply below_drew1) | exact HB.out)⟩
           ·
            rw [if_neg c24] at H
            have c24b0 : (x9_2 == (a0.size : Int)) = false := beq_eq_false_iff_ne.mpr c24
            have c24b1 : (x9_2 != (a0.size : Int)) = true := bne_iff_ne.mpr c24
            by_cases c25 : x9_2 = (wrap64 (x5_1 + 1))
            ·
             rw [if_pos c25] at H
             have c25b0 : (x9_2 == (wrap64 (x5_1 + 1))) = true := beq_iff_eq.mpr c25
             have c25b1 : (x9_2 != (wrap64 (x5_1 + 1))) = false := bne_eq_false_iff_eq.mpr c25
             clear c25
             by_cases c26 : x4_1.size + 1 ≤ 9223372036854775807
             ·
              rw [if_pos c26] at H
              have c26b0 := eq_true c26
              have c26b1 : decide (x4_1.size + 1 ≤ 9223372036854775807) = true := decide_eq_true c26
              try have c26b2 : (9223372036854775807 < x4_1.size + 1) = False := eq_false (Nat.not_lt.2 c26)
              have H' := Aside0.mk H
              clear H
              go_wp2
              go_roundg kj5
              case measure => have := HK1.out; have := HK2.out; have := HJ5.out; omega
              case rel => exact ⟨(x4_1 ++ (⟨#[38]⟩ : ByteArray)), (wrap64 (x9_2 + 1)), (by first | with_reducible rfl | (simp only [pps, Nat.reduceAdd, Int.toNat_natCast]; done) | rfl | (simp; done) | (simp [*]; done)), (by first | with_reducible rfl | (simp only [pps, Nat.reduceAdd, Int.toNat_natCast]; done) | rfl | (simp; done) | (simp [*]; done)), H', ⟨by have := HK1.out; have := HK2.out; have := HJ5.out; omega⟩, ⟨by repeat (first | (with_reducible first | exact HB.out | apply below_alloc | apply pw_below_drewN | apply below_drew1) | exact HB.out)⟩⟩
             ·
              rw [if_neg c26] at H
              exact absurd H (by simp)
            ·
             rw [if_neg c25] at H
             have c25b0 : (x9_2 == (wrap64 (x5_1 + 1))) = false := beq_eq_false_iff_ne.mpr c25
             have c25b1 : (x9_2 != (wrap64 (x5_1 + 1))) = true := bne_iff_ne.mpr c25
             replace H := Option.bind_eq_some_iff.mp H
             obtain ⟨t194, A270, H⟩ := H
             replace H : (if x4_1.size + t194.size ≤ 9223372036854775807 then (haversackref07_Decode.l0 kj5 a0 (x4_1 ++ t194) (wrap64 (x9_2 + 1))) else (none)) = some (r1, r2) := H
             have A27 := Aside0.mk A270
             clear A270
             by_cases c28 : x4_1.size + t194.size ≤ 9223372036854775807
             ·
              rw [if_pos c28] at H
              have c28b0 := eq_true c28
              have c28b1 : decide (x4_1.size + t194.size ≤ 9223372036854775807) = true := decide_eq_true c28
              try have c28b2 : (9223372036854775807 < x4_1.size + t194.size) = False := eq_false (Nat.not_lt.2 c28)
              have H' := Aside0.mk H
              clear H
              obtain ⟨Ao29, co29, eo29⟩ := Kd.R_slice HO_8.out
              subst eo29
              go_wp2_with (first | ((with_reducible refine gate_callee (f := 48) rfl ?_); refine goesL_ (some 81) rfl rfl Tryd.func48 (by kernel_rfl) rfl #[.slice Ao29 x8_2.length co29] rfl (by (try simp only [List.map_toArray, List.map_cons, List.map_nil]); first | done | rfl | (simp only [List.length_drop, List.length_take]; rfl)) ?_; (with_reducible refine (haversackref07_letters.calls kj5 _ _ x8_2 t194 _ ?side1 ?side2 A27.out).mono ?_); (case side1 => repeat (first | exact (Kd.R_reads' HO_8.out).2.2 | (with_reducible refine Kd.C_alloc ?_ _) | (with_reducible refine Kd.C_drewN ?_ _) | (with_reducible refine Kd.C_drew ?_))); (case side2 => exact (Kd.R_reads' HO_8.out).2.1); rintro e w' ⟨rfl, ⟨nd, rfl⟩⟩; refine ⟨_, rfl, ?_⟩))
              go_roundg kj5
              case measure => have := HK1.out; have := HK2.out; have := HJ5.out; omega
              case rel => exact ⟨(x4_1 ++ t194), (wrap64 (x9_2 + 1)), (by first | with_reducible rfl | (simp only [pps, Nat.reduceAdd, Int.toNat_natCast]; done) | rfl | (simp; done) | (simp [*]; done)), (by first | with_reducible rfl | (simp only [pps, Nat.reduceAdd, Int.toNat_natCast]; done) | rfl | (simp; done) | (simp [*]; done)), H', ⟨by have := HK1.out; have := HK2.out; have := HJ5.out; omega⟩, ⟨by repeat (first | (with_reducible first | exact HB.out | apply below_alloc | apply pw_below_drewN | apply below_drew1) | exact HB.out)⟩⟩
             ·
              rw [if_neg c28] at H
              exact absurd H (by simp)
     ·
      rw [if_neg c5] at H
      have c5b0 : ((bt a0 x5_1) == 38) = false := beq_eq_false_iff_ne.mpr c5
      have c5b1 : ((bt a0 x5_1) != 38) = true := bne_iff_ne.mpr c5
      have c30b0 := eq_true (of_decide_eq_true (by first | (with_reducible assumption) | assumption) : 0 ≤ x5_1)
      by_cases c31 : x5_1 ≤ (wrap64 (x5_1 + 1))
      ·
       rw [if_pos c31] at H
       have c31b0 := eq_true c31
       have c31b1 : decide (x5_1 ≤ (wrap64 (x5_1 + 1))) = true := decide_eq_true c31
       by_cases c32 : (wrap64 (x5_1 + 1)) ≤ (a0.size : Int)
       ·
        rw [if_pos c32] at H
        have c32b0 := eq_true c32
        have c32b1 : decide ((wrap64 (x5_1 + 1)) ≤ (a0.size : Int)) = true := decide_eq_true c32
        by_cases c33 : x4_1.size + ((((wrap64 (x5_1 + 1)) : Int).toNat - (x5_1 : Int).toNat)) ≤ 9223372036854775807
        ·
         rw [if_pos c33] at H
         have c33b0 := eq_true c33
         have c33b1 : decide (x4_1.size + ((((wrap64 (x5_1 + 1)) : Int).toNat - (x5_1 : Int).toNat)) ≤ 9223372036854775807) = true := decide_eq_true c33
         try have c33b2 : (9223372036854775807 < x4_1.size + ((((wrap64 (x5_1 + 1)) : Int).toNat - (x5_1 : Int).toNat))) = False := eq_false (Nat.not_lt.2 c33)
         have H' := Aside0.mk H
         clear H
         have p4 : 0 ≤ (x5_1 : Int) := of_decide_eq_true (by first | (with_reducible assumption) | assumption)
         have q4 : x5_1 < (a0.size : Int) := of_decide_eq_true (by first | (with_reducible assumption) | assumption)
         have hx4 := bt_at a0 x5_1
         replace p4 := eq_true p4
         replace q4 := eq_true q4
         go_wp2
         go_roundg k1
         case measure => have := HK1.out; omega
         case rel => exact ⟨(x4_1 ++ (a0.extract (x5_1 : Int).toNat ((wrap64 (x5_1 + 1)) : Int).toNat)), (wrap64 (x5_1 + 1)), (by first | with_reducible rfl | (simp only [pps, Nat.reduceAdd, Int.toNat_natCast]; done) | rfl | (simp; done) | (simp [*]; done)), (by first | with_reducible rfl | (simp only [pps, Nat.reduceAdd, Int.toNat_natCast]; done) | rfl | (simp; done) | (simp [*]; done)), H', ⟨by have := HK1.out; omega⟩, ⟨by repeat (first | (with_reducible first | exact HB.out | apply below_alloc | apply pw_below_drewN | apply below_drew1) | exact HB.out)⟩⟩
        ·
         rw [if_neg c33] at H
         exact absurd H (by simp)
       ·
        rw [if_neg c32] at H
        exact absurd H (by simp)
      ·
       rw [if_neg c31] at H
       exact absurd H (by simp)
    ·
     rw [if_neg c3] at H
     exact absurd H (by simp)
   ·
    rw [if_neg c2] at H
    have c2b0 : decide (x5_1 < (a0.size : Int)) = false := decide_eq_false c2
    clear c2
    replace H := Option.bind_eq_some_iff.mp H
    obtain ⟨⟨t187, t188⟩, A340, H⟩ := H
    replace H : (if t188 = 0 then (if t187.toList = a0.toList then (some (x4_1, 0)) else (some ((⟨#[]⟩ : ByteArray), 11))) else (some ((⟨#[]⟩ : ByteArray), 11))) = some (r1, r2) := H
    have A34 := Aside0.mk A340
    clear A340
    by_cases c35 : t188 = 0
    ·
     rw [if_pos c35] at H
     have c35b0 : (t188 == 0) = true := beq_iff_eq.mpr c35
     have c35b1 : (t188 != 0) = false := bne_eq_false_iff_eq.mpr c35
     clear c35
     by_cases c36 : t187.toList = a0.toList
     ·
      rw [if_pos c36] at H
      have c36b0 : (t187.toList == a0.toList) = true := beq_iff_eq.mpr c36
      have c36b1 : (t187.toList != a0.toList) = false := bne_eq_false_iff_eq.mpr c36
      clear c36
      simp only [Option.some.injEq, Prod.mk.injEq] at H
      obtain ⟨rfl, rfl⟩ := H
      go_wp2_with (first | ((with_reducible refine gate_callee (f := 12) rfl ?_); refine goesL_ (some 86) rfl rfl Tryd.func12 (by kernel_rfl) rfl #[.string x4_1] rfl (by (try simp only [List.map_toArray, List.map_cons, List.map_nil]); first | done | rfl | (simp only [List.length_drop, List.length_take]; rfl)) ?_; (with_reducible refine (haversackref07_Encode.calls k1 x4_1 t187 t188 _ A34.out (Tabs.below HT.out (by repeat (first | (with_reducible first | exact HB.out | apply below_alloc | apply pw_below_drewN | apply below_drew1) | exact HB.out)))).mono ?_); rintro e w37 ⟨rfl, hb⟩; refine ⟨_, rfl, ?_⟩; have n0_ := Aside0.mk (below_step (by repeat (first | (with_reducible first | exact HB.out | apply below_alloc | apply pw_below_drewN | apply below_drew1) | exact HB.out)) hb); clear HB; have HB := n0_; clear n0_; (try clear hb); (try clear hb2); (try clear hk); (try clear hi)))
      go_ret2
      exact ⟨by first | rfl | (simp [errW_none, errW_some] <;> rfl) | (simp [*, errW_none, errW_some] <;> rfl), by repeat (first | (with_reducible first | exact HB.out | apply below_alloc | apply pw_below_drewN | apply below_drew1) | exact HB.out)⟩
     ·
      rw [if_neg c36] at H
      have c36b0 : (t187.toList == a0.toList) = false := beq_eq_false_iff_ne.mpr c36
      have c36b1 : (t187.toList != a0.toList) = true := bne_iff_ne.mpr c36
      simp only [Option.some.injEq, Prod.mk.injEq] at H
      obtain ⟨rfl, rfl⟩ := H
      go_wp2_with (first | ((with_reducible refine gate_callee (f := 12) rfl ?_); refine goesL_ (some 86) rfl rfl Tryd.func12 (by kernel_rfl) rfl #[.string x4_1] rfl (by (try simp only [List.map_toArray, List.map_cons, List.map_nil]); first | done | rfl | (simp only [List.length_drop, List.length_take]; rfl)) ?_; (with_reducible refine (haversackref07_Encode.calls k1 x4_1 t187 t188 _ A34.out (Tabs.below HT.out (by repeat (first | (with_reducible first | exact HB.out | apply below_alloc | apply pw_below_drewN | apply below_drew1) | exact HB.out)))).mono ?_); rintro e w38 ⟨rfl, hb⟩; refine ⟨_, rfl, ?_⟩; have n0_ := Aside0.mk (below_step (by repeat (first | (with_reducible first | exact HB.out | apply below_alloc | apply pw_below_drewN | apply below_drew1) | exact HB.out)) hb); clear HB; have HB := n0_; clear n0_; (try clear hb); (try clear hb2); (try clear hk); (try clear hi)))
      go_ret2
      exact ⟨by first | rfl | (simp [errW_none, errW_some] <;> rfl) | (simp [*, errW_none, errW_some] <;> rfl), by repeat (first | (with_reducible first | exact HB.out | apply below_alloc | apply pw_below_drewN | apply below_drew1) | exact HB.out)⟩
    ·
     rw [if_neg c35] at H
     have c35b0 : (t188 == 0) = false := beq_eq_false_iff_ne.mpr c35
     have c35b1 : (t188 != 0) = true := bne_iff_ne.mpr c35
     simp only [Option.some.injEq, Prod.mk.injEq] at H
     obtain ⟨rfl, rfl⟩ := H
     go_wp2_with (first | ((with_reducible refine gate_callee (f := 12) rfl ?_); refine goesL_ (some 86) rfl rfl Tryd.func12 (by kernel_rfl) rfl #[.string x4_1] rfl (by (try simp only [List.map_toArray, List.map_cons, List.map_nil]); first | done | rfl | (simp only [List.length_drop, List.length_take]; rfl)) ?_; (with_reducible refine (haversackref07_Encode.calls k1 x4_1 t187 t188 _ A34.out (Tabs.below HT.out (by repeat (first | (with_reducible first | exact HB.out | apply below_alloc | apply pw_below_drewN | apply below_drew1) | exact HB.out)))).mono ?_); rintro e w39 ⟨rfl, hb⟩; refine ⟨_, rfl, ?_⟩; have n0_ := Aside0.mk (below_step (by repeat (first | (with_reducible first | exact HB.out | apply below_alloc | apply pw_below_drewN | apply below_drew1) | exact HB.out)) hb); clear HB; have HB := n0_; clear n0_; (try clear hb); (try clear hb2); (try clear hk); (try clear hi)))
     go_ret2
     exact ⟨by first | rfl | (simp [errW_none, errW_some] <;> rfl) | (simp [*, errW_none, errW_some] <;> rfl), by repeat (first | (with_reducible first | exact HB.out | apply below_alloc | apply pw_below_drewN | apply below_drew1) | exact HB.out)⟩

end Go.Proofs.YtnkibbfpmhgeaaaDoor.PP
