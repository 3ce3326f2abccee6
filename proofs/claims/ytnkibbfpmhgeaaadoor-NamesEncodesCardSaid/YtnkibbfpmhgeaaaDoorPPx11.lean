-- PRINTED by print.py (a twelfth state) out of the translation. Not trusted: Lean checks it.
import Derived.Test.YtnkibbfpmhgeaaaDoorPPx0
namespace Go.Proofs.YtnkibbfpmhgeaaaDoor.PP
open Go.RowKit Go.Proofs.YtnkibbfpmhgeaaaDoorW.PrintWords Go.Proofs.YtnkibbfpmhgeaaaDoorW.PrintLast Go.Proofs.YtnkibbfpmhgeaaaDoorW.PrintMore
attribute [local go_sem] max2_int min2_int max_two min_two max_three min_three max_four min_four   -- for this text's walks alone
open Go.Proofs.YtnkibbfpmhgeaaaDoor.My
set_option linter.unusedVariables false
set_option linter.unusedSimpArgs false

/-! ### haversackref07_letters: function 48 -/
def haversackref07_letters.l0 : Nat → List Int → ByteArray → Int → Option (ByteArray)
 | 0, _, _, _ => none
 | k + 1, x0, x3, x4 => if x4 < (x0.length : Int) then (if 0 ≤ x4 then (if (rd x0 x4) ≥ 55296 then (if (rd x0 x4) < 56320 then (if (wrap64 (x4 + 1)) < (x0.length : Int) then (if 0 ≤ (wrap64 (x4 + 1)) then (if (rd x0 (wrap64 (x4 + 1))) ≥ 56320 then (if (rd x0 (wrap64 (x4 + 1))) < 57344 then (if x3.size + ((Utf8.encode (wrap32 (wrap64 ((wrap64 ((wrap64 (65536 + (wrap64 ((wrap64 ((rd x0 x4) - 55296)) * 1024)))) + (rd x0 (wrap64 (x4 + 1))))) - 56320)))).size) ≤ 9223372036854775807 then (haversackref07_letters.l0 k x0 (x3 ++ (Utf8.encode (wrap32 (wrap64 ((wrap64 ((wrap64 (65536 + (wrap64 ((wrap64 ((rd x0 x4) - 55296)) * 1024)))) + (rd x0 (wrap64 (x4 + 1))))) - 56320))))) (wrap64 ((wrap64 (x4 + 1)) + 1))) else (none)) else (if x3.size + (Utf8.encode (wrap32 (rd x0 x4))).size ≤ 9223372036854775807 then (haversackref07_letters.l0 k x0 (x3 ++ (Utf8.encode (wrap32 (rd x0 x4)))) (wrap64 (x4 + 1))) else (none))) else (if x3.size + (Utf8.encode (wrap32 (rd x0 x4))).size ≤ 9223372036854775807 then (haversackref07_letters.l0 k x0 (x3 ++ (Utf8.encode (wrap32 (rd x0 x4)))) (wrap64 (x4 + 1))) else (none))) else (none)) else (if x3.size + (Utf8.encode (wrap32 (rd x0 x4))).size ≤ 9223372036854775807 then (haversackref07_letters.l0 k x0 (x3 ++ (Utf8.encode (wrap32 (rd x0 x4)))) (wrap64 (x4 + 1))) else (none))) else (if x3.size + (Utf8.encode (wrap32 (rd x0 x4))).size ≤ 9223372036854775807 then (haversackref07_letters.l0 k x0 (x3 ++ (Utf8.encode (wrap32 (rd x0 x4)))) (wrap64 (x4 + 1))) else (none))) else (if x3.size + (Utf8.encode (wrap32 (rd x0 x4))).size ≤ 9223372036854775807 then (haversackref07_letters.l0 k x0 (x3 ++ (Utf8.encode (wrap32 (rd x0 x4)))) (wrap64 (x4 + 1))) else (none))) else (none)) else (some x3)
def haversackref07_letters.f (k : Nat) (l0 : List Int) : Option (ByteArray) := haversackref07_letters.l0 k l0 (⟨#[]⟩ : ByteArray) 0
theorem haversackref07_letters.mono_l : ∀ k, (∀ y0 y1 y2, LeO (haversackref07_letters.l0 k y0 y1 y2) (haversackref07_letters.l0 (k + 1) y0 y1 y2))
 | 0 => fun _ _ _ r h => by simp [haversackref07_letters.l0] at h
 | k + 1 => by
  have ih0 := haversackref07_letters.mono_l k
  ·
   intro y0 y1 y2
   unfold haversackref07_letters.l0
   repeat' first
   | (with_reducible exact ih0 _ _ _)
   | (with_reducible exact LeO.refl _)
   | (with_reducible exact LeO.none _)
   | (with_reducible refine LeO.ite ?_ ?_)
   | (with_reducible refine LeO.bind ?_ (fun _ => ?_))
   | exact ih0 _ _ _
   | exact LeO.none _
   | refine LeO.ite ?_ ?_
   | refine LeO.bind ?_ (fun _ => ?_)
theorem haversackref07_letters.mono : ∀ a0 k, LeO (haversackref07_letters.f k a0) (haversackref07_letters.f (k + 1) a0) := by
 intro a0 k
 have ih0 := haversackref07_letters.mono_l k
 unfold haversackref07_letters.f
 repeat' first
   | (with_reducible exact ih0 _ _ _)
   | (with_reducible exact LeO.refl _)
   | (with_reducible exact LeO.none _)
   | (with_reducible refine LeO.ite ?_ ?_)
   | (with_reducible refine LeO.bind ?_ (fun _ => ?_))
   | exact ih0 _ _ _
   | exact LeO.none _
   | refine LeO.ite ?_ ?_
   | refine LeO.bind ?_ (fun _ => ?_)
set_option maxHeartbeats 8000000 in
set_option maxRecDepth 100000 in
theorem haversackref07_letters.calls (k : Nat) (A0 : Option Addr) (c0 : Nat) (l0 : List Int) (r : ByteArray) (w : World) (hr0 : Kd.C (Kd.int .i64) w A0 l0.length l0) (hc0 : l0.length ≤ c0) (h : haversackref07_letters.f k l0 = some r) :
  Calls Tryd.prog 48 #[.slice A0 l0.length c0] w fun e w' => e = .returned (.string r) ∧ Drawn0 w w' := by
 have HR0 := Aside0.mk hr0
 have HC0 := Aside0.mk hc0
 clear hr0 hc0
 have H : (haversackref07_letters.l0 k l0 (⟨#[]⟩ : ByteArray) 0) = some r := h
 clear h
 have H' := Aside0.mk H
 clear H
 go_enter Tryd.func48, Tryd.ntmps48
 go_wp2
 repeat (go_quiet (fail); try go_wp2)
 go_loopg [3, 4] k (fun kq v3 v4 w' => ∃ (x3_1 : ByteArray) (x4_1 : Int), v3 = .string x3_1 ∧ v4 = .int .i64 x4_1 ∧ Aside0 (haversackref07_letters.l0 kq l0 x3_1 x4_1 = some r) ∧ Aside0 (kq ≤ k) ∧ Drawn0 w w')
 case atStart => exact ⟨((⟨#[]⟩ : ByteArray)), (0), (by first | with_reducible rfl | (simp only [pps, Nat.reduceAdd, Int.toNat_natCast]; done) | rfl | (simp; done) | (simp [*]; done)), (by first | with_reducible rfl | (simp only [pps, Nat.reduceAdd, Int.toNat_natCast]; done) | rfl | (simp; done) | (simp [*]; done)), H', ⟨Nat.le_refl _⟩, by repeat (first | exact Drawn0.refl _ | apply Drawn0.step)⟩
 case round =>
  clear H'
  obtain ⟨x3_1, x4_1, rfl, rfl, HA, HK1, ⟨m1, rfl⟩⟩ := hrel
  cases gk with
  | zero => exact absurd HA.out (by simp [haversackref07_letters.l0])
  | succ k1 =>
   have H := HA.out
   clear HA
   simp only [haversackref07_letters.l0] at H
   by_cases c2 : x4_1 < (l0.length : Int)
   ·
    rw [if_pos c2] at H
    have c2b0 : decide (x4_1 < (l0.length : Int)) = true := decide_eq_true c2
    clear c2
    by_cases c3 : 0 ≤ x4_1
    ·
     rw [if_pos c3] at H
     have c3b0 : decide (0 ≤ x4_1) = true := decide_eq_true c3
     clear c3
     by_cases c4 : (rd l0 x4_1) ≥ 55296
     ·
      rw [if_pos c4] at H
      have c4b0 : decide (55296 ≤ (rd l0 x4_1)) = true := decide_eq_true c4
      clear c4
      by_cases c5 : (rd l0 x4_1) < 56320
      ·
       rw [if_pos c5] at H
       have c5b0 : decide ((rd l0 x4_1) < 56320) = true := decide_eq_true c5
       clear c5
       by_cases c6 : (wrap64 (x4_1 + 1)) < (l0.length : Int)
       ·
        rw [if_pos c6] at H
        have c6b0 : decide ((wrap64 (x4_1 + 1)) < (l0.length : Int)) = true := decide_eq_true c6
        clear c6
        obtain ⟨ji7, hji7⟩ : ∃ j_ : Int, (wrap64 (x4_1 + 1)) = j_ := ⟨_, rfl⟩
        replace H : (if 0 ≤ (ji7) then (if (rd l0 (ji7)) ≥ 56320 then (if (rd l0 (ji7)) < 57344 then (if x3_1.size + ((Utf8.encode (wrap32 (wrap64 ((wrap64 ((wrap64 (65536 + (wrap64 ((wrap64 ((rd l0 x4_1) - 55296)) * 1024)))) + (rd l0 (ji7)))) - 56320)))).size) ≤ 9223372036854775807 then (haversackref07_letters.l0 k1 l0 (x3_1 ++ (Utf8.encode (wrap32 (wrap64 ((wrap64 ((wrap64 (65536 + (wrap64 ((wrap64 ((rd l0 x4_1) - 55296)) * 1024)))) + (rd l0 (ji7)))) - 56320))))) (wrap64 ((ji7) + 1))) else (none)) else (if x3_1.size + (Utf8.encode (wrap32 (rd l0 x4_1))).size ≤ 9223372036854775807 then (haversackref07_letters.l0 k1 l0 (x3_1 ++ (Utf8.encode (wrap32 (rd l0 x4_1)))) ji7) else (none))) else (if x3_1.size + (Utf8.encode (wrap32 (rd l0 x4_1))).size ≤ 9223372036854775807 then (haversackref07_letters.l0 k1 l0 (x3_1 ++ (Utf8.encode (wrap32 (rd l0 x4_1)))) ji7) else (none))) else (none)) = some r := by first | (rw [hji7] at H; exact H) | (simp only [hji7] at H ⊢; exact H)
        (try rw [hji7] at c6b0)
        have hji7w : (IntKind.i64.wrap (x4_1 + 1)) = ji7 := (i64_w _).trans hji7
        by_cases c8 : 0 ≤ (ji7)
        ·
         rw [if_pos c8] at H
         have c8b0 : decide (0 ≤ (ji7)) = true := decide_eq_true c8
         clear c8
         by_cases c9 : (rd l0 (ji7)) ≥ 56320
         ·
          rw [if_pos c9] at H
          have c9b0 : decide (56320 ≤ (rd l0 (ji7))) = true := decide_eq_true c9
          clear c9
          by_cases c10 : (rd l0 (ji7)) < 57344
          ·
           rw [if_pos c10] at H
           have c10b0 : decide ((rd l0 (ji7)) < 57344) = true := decide_eq_true c10
           clear c10
           by_cases c11 : x3_1.size + ((Utf8.encode (wrap32 (wrap64 ((wrap64 ((wrap64 (65536 + (wrap64 ((wrap64 ((rd l0 x4_1) - 55296)) * 1024)))) + (rd l0 (ji7)))) - 56320)))).size) ≤ 9223372036854775807
           ·
            rw [if_pos c11] at H
            have c11b0 := eq_true c11
            have c11b1 : decide (x3_1.size + ((Utf8.encode (wrap32 (wrap64 ((wrap64 ((wrap64 (65536 + (wrap64 ((wrap64 ((rd l0 x4_1) - 55296)) * 1024)))) + (rd l0 (ji7)))) - 56320)))).size) ≤ 9223372036854775807) = true := decide_eq_true c11
            try have c11b2 : (9223372036854775807 < x3_1.size + ((Utf8.encode (wrap32 (wrap64 ((wrap64 ((wrap64 (65536 + (wrap64 ((wrap64 ((rd l0 x4_1) - 55296)) * 1024)))) + (rd l0 (ji7)))) - 56320)))).size)) = False := eq_false (Nat.not_lt.2 c11)
            have H' := Aside0.mk H
            clear H
            have p176 : 0 ≤ (x4_1 : Int) := of_decide_eq_true (by first | (with_reducible assumption) | assumption)
            have q176 : x4_1 < (l0.length : Int) := of_decide_eq_true (by first | (with_reducible assumption) | assumption)
            obtain ⟨ad176, e176, hx176_0⟩ := Kd.at_int HR0.out x4_1 p176 q176
            cases e176
            replace p176 := eq_true p176
            replace q176 := eq_true q176
            have p177 : 0 ≤ (x4_1 : Int) := of_decide_eq_true (by first | (with_reducible assumption) | assumption)
            have q177 : x4_1 < (l0.length : Int) := of_decide_eq_true (by first | (with_reducible assumption) | assumption)
            obtain ⟨ad177, e177, hx177_0⟩ := Kd.at_int HR0.out x4_1 p177 q177
            obtain rfl : ad176 = ad177 := (by injection e177)
            replace p177 := eq_true p177
            replace q177 := eq_true q177
            have p178 : 0 ≤ ((ji7) : Int) := of_decide_eq_true (by first | (with_reducible assumption) | assumption)
            have q178 : (ji7) < (l0.length : Int) := of_decide_eq_true (by first | (with_reducible assumption) | assumption)
            obtain ⟨ad178, e178, hx178_0⟩ := Kd.at_int HR0.out (ji7) p178 q178
            obtain rfl : ad176 = ad178 := (by injection e178)
            replace p178 := eq_true p178
            replace q178 := eq_true q178
            have p179 : 0 ≤ ((ji7) : Int) := of_decide_eq_true (by first | (with_reducible assumption) | assumption)
            have q179 : (ji7) < (l0.length : Int) := of_decide_eq_true (by first | (with_reducible assumption) | assumption)
            obtain ⟨ad179, e179, hx179_0⟩ := Kd.at_int HR0.out (ji7) p179 q179
            obtain rfl : ad176 = ad179 := (by injection e179)
            replace p179 := eq_true p179
            replace q179 := eq_true q179
            have p180 : 0 ≤ (x4_1 : Int) := of_decide_eq_true (by first | (with_reducible assumption) | assumption)
            have q180 : x4_1 < (l0.length : Int) := of_decide_eq_true (by first | (with_reducible assumption) | assumption)
            obtain ⟨ad180, e180, hx180_0⟩ := Kd.at_int HR0.out x4_1 p180 q180
            obtain rfl : ad176 = ad180 := (by injection e180)
            replace p180 := eq_true p180
            replace q180 := eq_true q180
            have p181 : 0 ≤ ((ji7) : Int) := of_decide_eq_true (by first | (with_reducible assumption) | assumption)
            have q181 : (ji7) < (l0.length : Int) := of_decide_eq_true (by first | (with_reducible assumption) | assumption)
            obtain ⟨ad181, e181, hx181_0⟩ := Kd.at_int HR0.out (ji7) p181 q181
            obtain rfl : ad176 = ad181 := (by injection e181)
            replace p181 := eq_true p181
            replace q181 := eq_true q181
            go_wp2
            repeat (go_quiet (fail); try go_wp2)
            go_roundg k1
            case measure => have := HK1.out; omega
            case rel => exact ⟨(x3_1 ++ (Utf8.encode (wrap32 (wrap64 ((wrap64 ((wrap64 (65536 + (wrap64 ((wrap64 ((rd l0 x4_1) - 55296)) * 1024)))) + (rd l0 (ji7)))) - 56320))))), (wrap64 ((ji7) + 1)), (by first | with_reducible rfl | (simp only [pps, Nat.reduceAdd, Int.toNat_natCast]; done) | rfl | (simp; done) | (simp only [← hji7] <;> (first | rfl | simp)) | (simp [*]; done)), (by first | with_reducible rfl | (simp only [pps, Nat.reduceAdd, Int.toNat_natCast]; done) | rfl | (simp; done) | (simp only [← hji7] <;> (first | rfl | simp)) | (simp [*]; done)), H', ⟨by have := HK1.out; omega⟩, by repeat (first | exact Drawn0.refl _ | apply Drawn0.step)⟩
           ·
            rw [if_neg c11] at H
            exact absurd H (by simp)
          ·
           rw [if_neg c10] at H
           have c10b0 : decide ((rd l0 (ji7)) < 57344) = false := decide_eq_false c10
           clear c10
           by_cases c12 : x3_1.size + (Utf8.encode (wrap32 (rd l0 x4_1))).size ≤ 9223372036854775807
           ·
            rw [if_pos c12] at H
            have c12b0 := eq_true c12
            have c12b1 : decide (x3_1.size + (Utf8.encode (wrap32 (rd l0 x4_1))).size ≤ 9223372036854775807) = true := decide_eq_true c12
            try have c12b2 : (9223372036854775807 < x3_1.size + (Utf8.encode (wrap32 (rd l0 x4_1))).size) = False := eq_false (Nat.not_lt.2 c12)
            have H' := Aside0.mk H
            clear H
            have p176 : 0 ≤ (x4_1 : Int) := of_decide_eq_true (by first | (with_reducible assumption) | assumption)
            have q176 : x4_1 < (l0.length : Int) := of_decide_eq_true (by first | (with_reducible assumption) | assumption)
            obtain ⟨ad176, e176, hx176_0⟩ := Kd.at_int HR0.out x4_1 p176 q176
            cases e176
            replace p176 := eq_true p176
            replace q176 := eq_true q176
            have p177 : 0 ≤ (x4_1 : Int) := of_decide_eq_true (by first | (with_reducible assumption) | assumption)
            have q177 : x4_1 < (l0.length : Int) := of_decide_eq_true (by first | (with_reducible assumption) | assumption)
            obtain ⟨ad177, e177, hx177_0⟩ := Kd.at_int HR0.out x4_1 p177 q177
            obtain rfl : ad176 = ad177 := (by injection e177)
            replace p177 := eq_true p177
            replace q177 := eq_true q177
            have p178 : 0 ≤ ((ji7) : Int) := of_decide_eq_true (by first | (with_reducible assumption) | assumption)
            have q178 : (ji7) < (l0.length : Int) := of_decide_eq_true (by first | (with_reducible assumption) | assumption)
            obtain ⟨ad178, e178, hx178_0⟩ := Kd.at_int HR0.out (ji7) p178 q178
            obtain rfl : ad176 = ad178 := (by injection e178)
            replace p178 := eq_true p178
            replace q178 := eq_true q178
            have p179 : 0 ≤ ((ji7) : Int) := of_decide_eq_true (by first | (with_reducible assumption) | assumption)
            have q179 : (ji7) < (l0.length : Int) := of_decide_eq_true (by first | (with_reducible assumption) | assumption)
            obtain ⟨ad179, e179, hx179_0⟩ := Kd.at_int HR0.out (ji7) p179 q179
            obtain rfl : ad176 = ad179 := (by injection e179)
            replace p179 := eq_true p179
            replace q179 := eq_true q179
            have p182 : 0 ≤ (x4_1 : Int) := of_decide_eq_true (by first | (with_reducible assumption) | assumption)
            have q182 : x4_1 < (l0.length : Int) := of_decide_eq_true (by first | (with_reducible assumption) | assumption)
            obtain ⟨ad182, e182, hx182_0⟩ := Kd.at_int HR0.out x4_1 p182 q182
            obtain rfl : ad176 = ad182 := (by injection e182)
            replace p182 := eq_true p182
            replace q182 := eq_true q182
            go_wp2
            repeat (go_quiet (fail); try go_wp2)
            go_roundg k1
            case measure => have := HK1.out; omega
            case rel => exact ⟨(x3_1 ++ (Utf8.encode (wrap32 (rd l0 x4_1)))), (ji7), (by first | with_reducible rfl | (simp only [pps, Nat.reduceAdd, Int.toNat_natCast]; done) | rfl | (simp; done) | (simp [*]; done)), (by first | with_reducible rfl | (simp only [pps, Nat.reduceAdd, Int.toNat_natCast]; done) | rfl | (simp; done) | (simp only [← hji7] <;> (first | rfl | simp)) | (simp [*]; done)), H', ⟨by have := HK1.out; omega⟩, by repeat (first | exact Drawn0.refl _ | apply Drawn0.step)⟩
           ·
            rw [if_neg c12] at H
            exact absurd H (by simp)
         ·
          rw [if_neg c9] at H
          have c9b0 : decide (56320 ≤ (rd l0 (ji7))) = false := decide_eq_false c9
          clear c9
          by_cases c13 : x3_1.size + (Utf8.encode (wrap32 (rd l0 x4_1))).size ≤ 9223372036854775807
          ·
           rw [if_pos c13] at H
           have c13b0 := eq_true c13
           have c13b1 : decide (x3_1.size + (Utf8.encode (wrap32 (rd l0 x4_1))).size ≤ 9223372036854775807) = true := decide_eq_true c13
           try have c13b2 : (9223372036854775807 < x3_1.size + (Utf8.encode (wrap32 (rd l0 x4_1))).size) = False := eq_false (Nat.not_lt.2 c13)
           have H' := Aside0.mk H
           clear H
           have p176 : 0 ≤ (x4_1 : Int) := of_decide_eq_true (by first | (with_reducible assumption) | assumption)
           have q176 : x4_1 < (l0.length : Int) := of_decide_eq_true (by first | (with_reducible assumption) | assumption)
           obtain ⟨ad176, e176, hx176_0⟩ := Kd.at_int HR0.out x4_1 p176 q176
           cases e176
           replace p176 := eq_true p176
           replace q176 := eq_true q176
           have p177 : 0 ≤ (x4_1 : Int) := of_decide_eq_true (by first | (with_reducible assumption) | assumption)
           have q177 : x4_1 < (l0.length : Int) := of_decide_eq_true (by first | (with_reducible assumption) | assumption)
           obtain ⟨ad177, e177, hx177_0⟩ := Kd.at_int HR0.out x4_1 p177 q177
           obtain rfl : ad176 = ad177 := (by injection e177)
           replace p177 := eq_true p177
           replace q177 := eq_true q177
           have p178 : 0 ≤ ((ji7) : Int) := of_decide_eq_true (by first | (with_reducible assumption) | assumption)
           have q178 : (ji7) < (l0.length : Int) := of_decide_eq_true (by first | (with_reducible assumption) | assumption)
           obtain ⟨ad178, e178, hx178_0⟩ := Kd.at_int HR0.out (ji7) p178 q178
           obtain rfl : ad176 = ad178 := (by injection e178)
           replace p178 := eq_true p178
           replace q178 := eq_true q178
           have p183 : 0 ≤ (x4_1 : Int) := of_decide_eq_true (by first | (with_reducible assumption) | assumption)
           have q183 : x4_1 < (l0.length : Int) := of_decide_eq_true (by first | (with_reducible assumption) | assumption)
           obtain ⟨ad183, e183, hx183_0⟩ := Kd.at_int HR0.out x4_1 p183 q183
           obtain rfl : ad176 = ad183 := (by injection e183)
           replace p183 := eq_true p183
           replace q183 := eq_true q183
           go_wp2
           repeat (go_quiet (fail); try go_wp2)
           go_roundg k1
           case measure => have := HK1.out; omega
           case rel => exact ⟨(x3_1 ++ (Utf8.encode (wrap32 (rd l0 x4_1)))), (ji7), (by first | with_reducible rfl | (simp only [pps, Nat.reduceAdd, Int.toNat_natCast]; done) | rfl | (simp; done) | (simp [*]; done)), (by first | with_reducible rfl | (simp only [pps, Nat.reduceAdd, Int.toNat_natCast]; done) | rfl | (simp; done) | (simp only [← hji7] <;> (first | rfl | simp)) | (simp [*]; done)), H', ⟨by have := HK1.out; omega⟩, by repeat (first | exact Drawn0.refl _ | apply Drawn0.step)⟩
          ·
           rw [if_neg c13] at H
           exact absurd H (by simp)
        ·
         rw [if_neg c8] at H
         exact absurd H (by simp)
       ·
        rw [if_neg c6] at H
        have c6b0 : decide ((wrap64 (x4_1 + 1)) < (l0.length : Int)) = false := decide_eq_false c6
        clear c6
        by_cases c14 : x3_1.size + (Utf8.encode (wrap32 (rd l0 x4_1))).size ≤ 9223372036854775807
        ·
         rw [if_pos c14] at H
         have c14b0 := eq_true c14
         have c14b1 : decide (x3_1.size + (Utf8.encode (wrap32 (rd l0 x4_1))).size ≤ 9223372036854775807) = true := decide_eq_true c14
         try have c14b2 : (9223372036854775807 < x3_1.size + (Utf8.encode (wrap32 (rd l0 x4_1))).size) = False := eq_false (Nat.not_lt.2 c14)
         have H' := Aside0.mk H
         clear H
         have p176 : 0 ≤ (x4_1 : Int) := of_decide_eq_true (by first | (with_reducible assumption) | assumption)
         have q176 : x4_1 < (l0.length : Int) := of_decide_eq_true (by first | (with_reducible assumption) | assumption)
         obtain ⟨ad176, e176, hx176_0⟩ := Kd.at_int HR0.out x4_1 p176 q176
         cases e176
         replace p176 := eq_true p176
         replace q176 := eq_true q176
         have p177 : 0 ≤ (x4_1 : Int) := of_decide_eq_true (by first | (with_reducible assumption) | assumption)
         have q177 : x4_1 < (l0.length : Int) := of_decide_eq_true (by first | (with_reducible assumption) | assumption)
         obtain ⟨ad177, e177, hx177_0⟩ := Kd.at_int HR0.out x4_1 p177 q177
         obtain rfl : ad176 = ad177 := (by injection e177)
         replace p177 := eq_true p177
         replace q177 := eq_true q177
         have p184 : 0 ≤ (x4_1 : Int) := of_decide_eq_true (by first | (with_reducible assumption) | assumption)
         have q184 : x4_1 < (l0.length : Int) := of_decide_eq_true (by first | (with_reducible assumption) | assumption)
         obtain ⟨ad184, e184, hx184_0⟩ := Kd.at_int HR0.out x4_1 p184 q184
         obtain rfl : ad176 = ad184 := (by injection e184)
         replace p184 := eq_true p184
         replace q184 := eq_true q184
         go_wp2
         repeat (go_quiet (fail); try go_wp2)
         go_roundg k1
         case measure => have := HK1.out; omega
         case rel => exact ⟨(x3_1 ++ (Utf8.encode (wrap32 (rd l0 x4_1)))), (wrap64 (x4_1 + 1)), (by first | with_reducible rfl | (simp only [pps, Nat.reduceAdd, Int.toNat_natCast]; done) | rfl | (simp; done) | (simp [*]; done)), (by first | with_reducible rfl | (simp only [pps, Nat.reduceAdd, Int.toNat_natCast]; done) | rfl | (simp; done) | (simp [*]; done)), H', ⟨by have := HK1.out; omega⟩, by repeat (first | exact Drawn0.refl _ | apply Drawn0.step)⟩
        ·
         rw [if_neg c14] at H
         exact absurd H (by simp)
      ·
       rw [if_neg c5] at H
       have c5b0 : decide ((rd l0 x4_1) < 56320) = false := decide_eq_false c5
       clear c5
       by_cases c15 : x3_1.size + (Utf8.encode (wrap32 (rd l0 x4_1))).size ≤ 9223372036854775807
       ·
        rw [if_pos c15] at H
        have c15b0 := eq_true c15
        have c15b1 : decide (x3_1.size + (Utf8.encode (wrap32 (rd l0 x4_1))).size ≤ 9223372036854775807) = true := decide_eq_true c15
        try have c15b2 : (9223372036854775807 < x3_1.size + (Utf8.encode (wrap32 (rd l0 x4_1))).size) = False := eq_false (Nat.not_lt.2 c15)
        have H' := Aside0.mk H
        clear H
        have p176 : 0 ≤ (x4_1 : Int) := of_decide_eq_true (by first | (with_reducible assumption) | assumption)
        have q176 : x4_1 < (l0.length : Int) := of_decide_eq_true (by first | (with_reducible assumption) | assumption)
        obtain ⟨ad176, e176, hx176_0⟩ := Kd.at_int HR0.out x4_1 p176 q176
        cases e176
        replace p176 := eq_true p176
        replace q176 := eq_true q176
        have p177 : 0 ≤ (x4_1 : Int) := of_decide_eq_true (by first | (with_reducible assumption) | assumption)
        have q177 : x4_1 < (l0.length : Int) := of_decide_eq_true (by first | (with_reducible assumption) | assumption)
        obtain ⟨ad177, e177, hx177_0⟩ := Kd.at_int HR0.out x4_1 p177 q177
        obtain rfl : ad176 = ad177 := (by injection e177)
        replace p177 := eq_true p177
        replace q177 := eq_true q177
        have p185 : 0 ≤ (x4_1 : Int) := of_decide_eq_true (by first | (with_reducible assumption) | assumption)
        have q185 : x4_1 < (l0.length : Int) := of_decide_eq_true (by first | (with_reducible assumption) | assumption)
        obtain ⟨ad185, e185, hx185_0⟩ := Kd.at_int HR0.out x4_1 p185 q185
        obtain rfl : ad176 = ad185 := (by injection e185)
        replace p185 := eq_true p185
        replace q185 := eq_true q185
        go_wp2
        repeat (go_quiet (fail); try go_wp2)
        go_roundg k1
        case measure => have := HK1.out; omega
        case rel => exact ⟨(x3_1 ++ (Utf8.encode (wrap32 (rd l0 x4_1)))), (wrap64 (x4_1 + 1)), (by first | with_reducible rfl | (simp only [pps, Nat.reduceAdd, Int.toNat_natCast]; done) | rfl | (simp; done) | (simp [*]; done)), (by first | with_reducible rfl | (simp only [pps, Nat.reduceAdd, Int.toNat_natCast]; done) | rfl | (simp; done) | (simp [*]; done)), H', ⟨by have := HK1.out; omega⟩, by repeat (first | exact Drawn0.refl _ | apply Drawn0.step)⟩
       ·
        rw [if_neg c15] at H
        exact absurd H (by simp)
     ·
      rw [if_neg c4] at H
      have c4b0 : decide (55296 ≤ (rd l0 x4_1)) = false := decide_eq_false c4
      clear c4
      by_cases c16 : x3_1.size + (Utf8.encode (wrap32 (rd l0 x4_1))).size ≤ 9223372036854775807
      ·
       rw [if_pos c16] at H
       have c16b0 := eq_true c16
       have c16b1 : decide (x3_1.size + (Utf8.encode (wrap32 (rd l0 x4_1))).size ≤ 9223372036854775807) = true := decide_eq_true c16
       try have c16b2 : (9223372036854775807 < x3_1.size + (Utf8.encode (wrap32 (rd l0 x4_1))).size) = False := eq_false (Nat.not_lt.2 c16)
       have H' := Aside0.mk H
       clear H
       have p176 : 0 ≤ (x4_1 : Int) := of_decide_eq_true (by first | (with_reducible assumption) | assumption)
       have q176 : x4_1 < (l0.length : Int) := of_decide_eq_true (by first | (with_reducible assumption) | assumption)
       obtain ⟨ad176, e176, hx176_0⟩ := Kd.at_int HR0.out x4_1 p176 q176
       cases e176
       replace p176 := eq_true p176
       replace q176 := eq_true q176
       have p186 : 0 ≤ (x4_1 : Int) := of_decide_eq_true (by first | (with_reducible assumption) | assumption)
       have q186 : x4_1 < (l0.length : Int) := of_decide_eq_true (by first | (with_reducible assumption) | assumption)
       obtain ⟨ad186, e186, hx186_0⟩ := Kd.at_int HR0.out x4_1 p186 q186
       obtain rfl : ad176 = ad186 := (by injection e186)
       replace p186 := eq_true p186
       replace q186 := eq_true q186
       go_wp2
       repeat (go_quiet (fail); try go_wp2)
       go_roundg k1
       case measure => have := HK1.out; omega
       case rel => exact ⟨(x3_1 ++ (Utf8.encode (wrap32 (rd l0 x4_1)))), (wrap64 (x4_1 + 1)), (by first | with_reducible rfl | (simp only [pps, Nat.reduceAdd, Int.toNat_natCast]; done) | rfl | (simp; done) | (simp [*]; done)), (by first | with_reducible rfl | (simp only [pps, Nat.reduceAdd, Int.toNat_natCast]; done) | rfl | (simp; done) | (simp [*]; done)), H', ⟨by have := HK1.out; omega⟩, by repeat (first | exact Drawn0.refl _ | apply Drawn0.step)⟩
      ·
       rw [if_neg c16] at H
       exact absurd H (by simp)
    ·
     rw [if_neg c3] at H
     exact absurd H (by simp)
   ·
    rw [if_neg c2] at H
    have c2b0 : decide (x4_1 < (l0.length : Int)) = false := decide_eq_false c2
    clear c2
    obtain rfl := Option.some.inj H
    go_wp2
    repeat (go_quiet (fail); try go_wp2)
    go_ret
    exact ⟨by first | with_reducible rfl | (simp only [pps, Nat.reduceAdd, Int.toNat_natCast]; done) | rfl | (simp; done) | (simp [*]; done), by repeat (first | exact Drawn0.refl _ | apply Drawn0.step)⟩

end Go.Proofs.YtnkibbfpmhgeaaaDoor.PP
