-- PRINTED by print.py (a twelfth state) out of the translation. Not trusted: Lean checks it.
import Derived.Test.YtkngjdhggcaonaaDoorPPx0
import Derived.Test.YtkngjdhggcaonaaDoorPPx9
import Derived.Test.YtkngjdhggcaonaaDoorPPx11
import Derived.Test.YtkngjdhggcaonaaDoorPPx16
import Derived.Test.YtkngjdhggcaonaaDoorPPx30
namespace Go.Proofs.YtkngjdhggcaonaaDoor.PP
open Go.RowKit Go.Proofs.YtkngjdhggcaonaaDoorW.PrintWords Go.Proofs.YtkngjdhggcaonaaDoorW.PrintLast Go.Proofs.YtkngjdhggcaonaaDoorW.PrintMore
attribute [local go_sem] max2_int min2_int max_two min_two max_three min_three max_four min_four   -- for this text's walks alone
open Go.Proofs.YtkngjdhggcaonaaDoor.My
set_option linter.unusedVariables false
set_option linter.unusedSimpArgs false

/-! ### haversacklaw10_HeaderPeople: function 6 -/
mutual
def haversacklaw10_HeaderPeople.j0 : Nat → ByteArray → ByteArray → Bool → Option (Bool)
 | 0, _, _, _ => none
 | k + 1, x0, x1, x17 => if x17 = true then ((haversacklaw10_alive.f k).bind fun t330 => (some t330)) else ((haversacklaw10_plainly.f k x0).bind fun t331 => (if t331 = true then ((some (([] : List (S33)) : List (S33))).bind fun y332 => ((header_Addresses.f k x0).bind fun t335 => (if y332.length + t335.length < 2932031007402 then ((some (y332 ++ t335 : List (S33))).bind fun y338 => ((header_Addresses.f k x1).bind fun t341 => (if y338.length + t341.length < 2932031007402 then (if x0.size + 1 ≤ 9223372036854775807 then (if x0.size + 1 + x1.size ≤ 9223372036854775807 then ((header_Addresses.f k ((x0 ++ (⟨#[44]⟩ : ByteArray)) ++ x1)).bind fun t347 => ((haversackref10_People.f k t347 (y338 ++ t341)).bind fun t350 => (if t350 = true then (haversacklaw10_HeaderPeople.j1 k x0) else (some false)))) else (none)) else (none)) else (none)))) else (none)))) else (haversacklaw10_HeaderPeople.j1 k x0)))
def haversacklaw10_HeaderPeople.j1 : Nat → ByteArray → Option (Bool)
 | 0, _ => none
 | k + 1, x0 => haversacklaw10_HeaderPeople.l0 k x0 (⟨#[34]⟩ : ByteArray) (x0.size : Int) 0
def haversacklaw10_HeaderPeople.l0 : Nat → ByteArray → ByteArray → Int → Int → Option (Bool)
 | 0, _, _, _, _ => none
 | k + 1, x0, x6, x37, x38 => if x38 < x37 then (if x6.size + 1 ≤ 9223372036854775807 then (if 0 ≤ x38 then (if x38 ≤ (wrap64 (x38 + 1)) then (if (wrap64 (x38 + 1)) ≤ (x0.size : Int) then (if x6.size + 1 + ((((wrap64 (x38 + 1)) : Int).toNat - (x38 : Int).toNat)) ≤ 9223372036854775807 then (haversacklaw10_HeaderPeople.l0 k x0 ((x6 ++ (⟨#[92]⟩ : ByteArray)) ++ (x0.extract (x38 : Int).toNat ((wrap64 (x38 + 1)) : Int).toNat)) x37 (wrap64 (x38 + 1))) else (none)) else (none)) else (none)) else (none)) else (none)) else (if x6.size + 12 ≤ 9223372036854775807 then ((header_Addresses.f k (x6 ++ (⟨#[34, 32, 60, 98, 111, 120, 64, 104, 111, 115, 116, 62]⟩ : ByteArray))).bind fun t351 => (if (t351.length : Int) = 1 then (if 0 < (t351.length : Int) then (if ((rd_T33 t351 0).f1).toList = ([98, 111, 120] : List UInt8) then (haversacklaw10_HeaderPeople.j3 k x0 t351 (((rd_T33 t351 0).f2).toList != ([104, 111, 115, 116] : List UInt8))) else (haversacklaw10_HeaderPeople.j3 k x0 t351 true)) else (none)) else (haversacklaw10_HeaderPeople.j3 k x0 t351 true))) else (none))
def haversacklaw10_HeaderPeople.j3 : Nat → ByteArray → List (S33) → Bool → Option (Bool)
 | 0, _, _, _ => none
 | k + 1, x0, x8, x69 => if x69 = true then (some false) else (if 0 < (x8.length : Int) then (haversacklaw10_HeaderPeople.l1 k x0 ((rd_T33 x8 0).f0)) else (none))
def haversacklaw10_HeaderPeople.l1 : Nat → ByteArray → ByteArray → Option (Bool)
 | 0, _, _ => none
 | k + 1, x0, x9 => if (x0.size : Int) > 0 then (if 0 < (x0.size : Int) then (if (bt x0 0) = 32 then (if 1 ≤ (x0.size : Int) then (haversacklaw10_HeaderPeople.l1 k (x0.extract 1 x0.size) x9) else (none)) else (if (bt x0 0) = 9 then (if 1 ≤ (x0.size : Int) then (haversacklaw10_HeaderPeople.l1 k (x0.extract 1 x0.size) x9) else (none)) else (if (bt x0 0) = 13 then (if 1 ≤ (x0.size : Int) then (haversacklaw10_HeaderPeople.l1 k (x0.extract 1 x0.size) x9) else (none)) else (if (bt x0 0) = 10 then (if 1 ≤ (x0.size : Int) then (haversacklaw10_HeaderPeople.l1 k (x0.extract 1 x0.size) x9) else (none)) else (if (x9.size : Int) ≤ (x0.size : Int) then (if 0 ≤ (x9.size : Int) then (if (x0.extract 0 ((x9.size : Int) : Int).toNat).toList = x9.toList then ((haversacklaw10_alive.f k).bind fun t357 => (some t357)) else (some false)) else (none)) else (some false)))))) else (none)) else (if (x9.size : Int) ≤ (x0.size : Int) then (if 0 ≤ (x9.size : Int) then (if (x0.extract 0 ((x9.size : Int) : Int).toNat).toList = x9.toList then ((haversacklaw10_alive.f k).bind fun t358 => (some t358)) else (some false)) else (none)) else (some false))
end
def haversacklaw10_HeaderPeople.f (k : Nat) (a0 : ByteArray) (a1 : ByteArray) : Option (Bool) := if (a0.size : Int) > 4000 then (haversacklaw10_HeaderPeople.j0 k a0 a1 true) else (haversacklaw10_HeaderPeople.j0 k a0 a1 (decide ((a1.size : Int) > 4000)))
theorem haversacklaw10_HeaderPeople.mono_l : ∀ k, (∀ y0 y1 y2, LeO (haversacklaw10_HeaderPeople.j0 k y0 y1 y2) (haversacklaw10_HeaderPeople.j0 (k + 1) y0 y1 y2)) ∧ (∀ y0, LeO (haversacklaw10_HeaderPeople.j1 k y0) (haversacklaw10_HeaderPeople.j1 (k + 1) y0)) ∧ (∀ y0 y1 y2 y3, LeO (haversacklaw10_HeaderPeople.l0 k y0 y1 y2 y3) (haversacklaw10_HeaderPeople.l0 (k + 1) y0 y1 y2 y3)) ∧ (∀ y0 y1 y2, LeO (haversacklaw10_HeaderPeople.j3 k y0 y1 y2) (haversacklaw10_HeaderPeople.j3 (k + 1) y0 y1 y2)) ∧ (∀ y0 y1, LeO (haversacklaw10_HeaderPeople.l1 k y0 y1) (haversacklaw10_HeaderPeople.l1 (k + 1) y0 y1))
 | 0 => ⟨fun _ _ _ r h => by simp [haversacklaw10_HeaderPeople.j0] at h, fun _ r h => by simp [haversacklaw10_HeaderPeople.j1] at h, fun _ _ _ _ r h => by simp [haversacklaw10_HeaderPeople.l0] at h, fun _ _ _ r h => by simp [haversacklaw10_HeaderPeople.j3] at h, fun _ _ r h => by simp [haversacklaw10_HeaderPeople.l1] at h⟩
 | k + 1 => by
  obtain ⟨ih0, ih1, ih2, ih3, ih4⟩ := haversacklaw10_HeaderPeople.mono_l k
  refine ⟨?_, ?_, ?_, ?_, ?_⟩
  ·
   intro y0 y1 y2
   unfold haversacklaw10_HeaderPeople.j0
   repeat' first
   | (with_reducible exact ih0 _ _ _)
   | (with_reducible exact ih1 _)
   | (with_reducible exact ih2 _ _ _ _)
   | (with_reducible exact ih3 _ _ _)
   | (with_reducible exact ih4 _ _)
   | (with_reducible exact haversacklaw10_alive.mono _)
   | (with_reducible exact haversacklaw10_plainly.mono _ _)
   | (with_reducible exact haversackref10_People.mono _ _ _)
   | (with_reducible exact header_Addresses.mono _ _)
   | (with_reducible exact LeO.refl _)
   | (with_reducible exact LeO.none _)
   | (with_reducible refine LeO.ite ?_ ?_)
   | (with_reducible refine LeO.bind ?_ (fun _ => ?_))
   | exact ih0 _ _ _
   | exact ih1 _
   | exact ih2 _ _ _ _
   | exact ih3 _ _ _
   | exact ih4 _ _
   | exact haversacklaw10_alive.mono _
   | exact haversacklaw10_plainly.mono _ _
   | exact haversackref10_People.mono _ _ _
   | exact header_Addresses.mono _ _
   | exact LeO.none _
   | refine LeO.ite ?_ ?_
   | refine LeO.bind ?_ (fun _ => ?_)
  ·
   intro y0
   unfold haversacklaw10_HeaderPeople.j1
   repeat' first
   | (with_reducible exact ih0 _ _ _)
   | (with_reducible exact ih1 _)
   | (with_reducible exact ih2 _ _ _ _)
   | (with_reducible exact ih3 _ _ _)
   | (with_reducible exact ih4 _ _)
   | (with_reducible exact haversacklaw10_alive.mono _)
   | (with_reducible exact haversacklaw10_plainly.mono _ _)
   | (with_reducible exact haversackref10_People.mono _ _ _)
   | (with_reducible exact header_Addresses.mono _ _)
   | (with_reducible exact LeO.refl _)
   | (with_reducible exact LeO.none _)
   | (with_reducible refine LeO.ite ?_ ?_)
   | (with_reducible refine LeO.bind ?_ (fun _ => ?_))
   | exact ih0 _ _ _
   | exact ih1 _
   | exact ih2 _ _ _ _
   | exact ih3 _ _ _
   | exact ih4 _ _
   | exact haversacklaw10_alive.mono _
   | exact haversacklaw10_plainly.mono _ _
   | exact haversackref10_People.mono _ _ _
   | exact header_Addresses.mono _ _
   | exact LeO.none _
   | refine LeO.ite ?_ ?_
   | refine LeO.bind ?_ (fun _ => ?_)
  ·
   intro y0 y1 y2 y3
   unfold haversacklaw10_HeaderPeople.l0
   repeat' first
   | (with_reducible exact ih0 _ _ _)
   | (with_reducible exact ih1 _)
   | (with_reducible exact ih2 _ _ _ _)
   | (with_reducible exact ih3 _ _ _)
   | (with_reducible exact ih4 _ _)
   | (with_reducible exact haversacklaw10_alive.mono _)
   | (with_reducible exact haversacklaw10_plainly.mono _ _)
   | (with_reducible exact haversackref10_People.mono _ _ _)
   | (with_reducible exact header_Addresses.mono _ _)
   | (with_reducible exact LeO.refl _)
   | (with_reducible exact LeO.none _)
   | (with_reducible refine LeO.ite ?_ ?_)
   | (with_reducible refine LeO.bind ?_ (fun _ => ?_))
   | exact ih0 _ _ _
   | exact ih1 _
   | exact ih2 _ _ _ _
   | exact ih3 _ _ _
   | exact ih4 _ _
   | exact haversacklaw10_alive.mono _
   | exact haversacklaw10_plainly.mono _ _
   | exact haversackref10_People.mono _ _ _
   | exact header_Addresses.mono _ _
   | exact LeO.none _
   | refine LeO.ite ?_ ?_
   | refine LeO.bind ?_ (fun _ => ?_)
  ·
   intro y0 y1 y2
   unfold haversacklaw10_HeaderPeople.j3
   repeat' first
   | (with_reducible exact ih0 _ _ _)
   | (with_reducible exact ih1 _)
   | (with_reducible exact ih2 _ _ _ _)
   | (with_reducible exact ih3 _ _ _)
   | (with_reducible exact ih4 _ _)
   | (with_reducible exact haversacklaw10_alive.mono _)
   | (with_reducible exact haversacklaw10_plainly.mono _ _)
   | (with_reducible exact haversackref10_People.mono _ _ _)
   | (with_reducible exact header_Addresses.mono _ _)
   | (with_reducible exact LeO.refl _)
   | (with_reducible exact LeO.none _)
   | (with_reducible refine LeO.ite ?_ ?_)
   | (with_reducible refine LeO.bind ?_ (fun _ => ?_))
   | exact ih0 _ _ _
   | exact ih1 _
   | exact ih2 _ _ _ _
   | exact ih3 _ _ _
   | exact ih4 _ _
   | exact haversacklaw10_alive.mono _
   | exact haversacklaw10_plainly.mono _ _
   | exact haversackref10_People.mono _ _ _
   | exact header_Addresses.mono _ _
   | exact LeO.none _
   | refine LeO.ite ?_ ?_
   | refine LeO.bind ?_ (fun _ => ?_)
  ·
   intro y0 y1
   unfold haversacklaw10_HeaderPeople.l1
   repeat' first
   | (with_reducible exact ih0 _ _ _)
   | (with_reducible exact ih1 _)
   | (with_reducible exact ih2 _ _ _ _)
   | (with_reducible exact ih3 _ _ _)
   | (with_reducible exact ih4 _ _)
   | (with_reducible exact haversacklaw10_alive.mono _)
   | (with_reducible exact haversacklaw10_plainly.mono _ _)
   | (with_reducible exact haversackref10_People.mono _ _ _)
   | (with_reducible exact header_Addresses.mono _ _)
   | (with_reducible exact LeO.refl _)
   | (with_reducible exact LeO.none _)
   | (with_reducible refine LeO.ite ?_ ?_)
   | (with_reducible refine LeO.bind ?_ (fun _ => ?_))
   | exact ih0 _ _ _
   | exact ih1 _
   | exact ih2 _ _ _ _
   | exact ih3 _ _ _
   | exact ih4 _ _
   | exact haversacklaw10_alive.mono _
   | exact haversacklaw10_plainly.mono _ _
   | exact haversackref10_People.mono _ _ _
   | exact header_Addresses.mono _ _
   | exact LeO.none _
   | refine LeO.ite ?_ ?_
   | refine LeO.bind ?_ (fun _ => ?_)
theorem haversacklaw10_HeaderPeople.mono : ∀ a0 a1 k, LeO (haversacklaw10_HeaderPeople.f k a0 a1) (haversacklaw10_HeaderPeople.f (k + 1) a0 a1) := by
 intro a0 a1 k
 obtain ⟨ih0, ih1, ih2, ih3, ih4⟩ := haversacklaw10_HeaderPeople.mono_l k
 unfold haversacklaw10_HeaderPeople.f
 repeat' first
   | (with_reducible exact ih0 _ _ _)
   | (with_reducible exact ih1 _)
   | (with_reducible exact ih2 _ _ _ _)
   | (with_reducible exact ih3 _ _ _)
   | (with_reducible exact ih4 _ _)
   | (with_reducible exact haversacklaw10_alive.mono _)
   | (with_reducible exact haversacklaw10_plainly.mono _ _)
   | (with_reducible exact haversackref10_People.mono _ _ _)
   | (with_reducible exact header_Addresses.mono _ _)
   | (with_reducible exact LeO.refl _)
   | (with_reducible exact LeO.none _)
   | (with_reducible refine LeO.ite ?_ ?_)
   | (with_reducible refine LeO.bind ?_ (fun _ => ?_))
   | exact ih0 _ _ _
   | exact ih1 _
   | exact ih2 _ _ _ _
   | exact ih3 _ _ _
   | exact ih4 _ _
   | exact haversacklaw10_alive.mono _
   | exact haversacklaw10_plainly.mono _ _
   | exact haversackref10_People.mono _ _ _
   | exact header_Addresses.mono _ _
   | exact LeO.none _
   | refine LeO.ite ?_ ?_
   | refine LeO.bind ?_ (fun _ => ?_)
set_option maxHeartbeats 8000000 in
set_option maxRecDepth 100000 in
theorem haversacklaw10_HeaderPeople.calls (k : Nat) (a0 : ByteArray) (a1 : ByteArray) (r : Bool) (w : World) (h : haversacklaw10_HeaderPeople.f k a0 a1 = some r) :
  Calls Tryd.prog 6 #[.string a0, .string a1] w fun e w' => e = .returned (.bool r) ∧ Below w.heap.size w w' := by
 have HB := Aside0.mk (Below.refl w.heap.size w)
 have H : (if (a0.size : Int) > 4000 then (haversacklaw10_HeaderPeople.j0 k a0 a1 true) else (haversacklaw10_HeaderPeople.j0 k a0 a1 (decide ((a1.size : Int) > 4000)))) = some r := h
 clear h
 have HC3 := Aside0.mk H
 clear H
 go_enter Tryd.func6, Tryd.ntmps6
 go_upto_region 1 with (fail)
 go_cut [17] (fun v17 wc => ∃ (kq : Nat) (x17_2 : Bool), v17 = .bool x17_2 ∧ Aside0 (haversacklaw10_HeaderPeople.j0 kq a0 a1 x17_2 = some r) ∧ Aside0 (kq ≤ k) ∧ Aside0 (Below w.heap.size w wc))
 case first =>
  have H := HC3.out
  clear HC3
  by_cases c4 : (a0.size : Int) > 4000
  ·
   rw [if_pos c4] at H
   have c4b0 : decide (4000 < (a0.size : Int)) = true := decide_eq_true c4
   have c4b1 : decide (4000 < a0.size) = true := decide_eq_true (by omega)
   clear c4
   (first | rw [c4b0] | (simp only [i64_w, i32_w]; rw [c4b0]) | skip)
   have H' := Aside0.mk H
   clear H
   go_wp2
   go_meet
   case rel => exact ⟨_, (true), (by first | with_reducible rfl | (simp only [pps, Nat.reduceAdd, Int.toNat_natCast]; done) | rfl | (simp; done) | (simp [*]; done)), H', ⟨by first | omega | exact Nat.le_refl _⟩, ⟨by repeat (first | (with_reducible first | exact HB.out | apply below_alloc | apply pw_below_drewN | apply below_drew1) | exact HB.out)⟩⟩
  ·
   rw [if_neg c4] at H
   have c4b0 : decide (4000 < (a0.size : Int)) = false := decide_eq_false c4
   have c4b1 : decide (4000 < a0.size) = false := decide_eq_false (by omega)
   clear c4
   (first | rw [c4b0] | (simp only [i64_w, i32_w]; rw [c4b0]) | skip)
   have H' := Aside0.mk H
   clear H
   go_wp2
   go_meet
   case rel => exact ⟨_, (decide ((a1.size : Int) > 4000)), (by first | with_reducible rfl | (simp only [pps, Nat.reduceAdd, Int.toNat_natCast]; done) | rfl | (simp; done) | (simp [*]; done)), H', ⟨by first | omega | exact Nat.le_refl _⟩, ⟨by repeat (first | (with_reducible first | exact HB.out | apply below_alloc | apply pw_below_drewN | apply below_drew1) | exact HB.out)⟩⟩
 case rest =>
  clear HC3
  try clear p2
  try clear c4
  try clear c4b0
  try clear c4b1
  obtain ⟨kq, x17_2, rfl, HA, HJ2, HB⟩ := hcut
  cases kq with
  | zero => exact absurd HA.out (by simp [haversacklaw10_HeaderPeople.j0])
  | succ kj2 =>
   have H := HA.out
   clear HA
   simp only [haversacklaw10_HeaderPeople.j0] at H
   by_cases c5 : x17_2 = true
   ·
    subst c5
    have H1 : ((haversacklaw10_alive.f kj2).bind fun t330 => (some t330)) = some r := by rw [if_pos rfl] at H; exact H
    clear H
    have H := H1
    clear H1
    replace H := Option.bind_eq_some_iff.mp H
    obtain ⟨t330, A60, H⟩ := H
    replace H : (some t330) = some r := H
    have A6 := Aside0.mk A60
    clear A60
    obtain rfl := Option.some.inj H
    go_wp2_with (first | ((with_reducible refine gate_callee (f := 10) rfl ?_); refine goesL_ (some 18) rfl rfl Tryd.func10 (by kernel_rfl) rfl #[] rfl (by (try simp only [List.map_toArray, List.map_cons, List.map_nil]); first | done | rfl | (simp only [List.length_drop, List.length_take]; rfl)) ?_; (with_reducible refine (haversacklaw10_alive.calls kj2  t330 _ A6.out).mono ?_); rintro e w7 ⟨rfl, hb⟩; refine ⟨_, rfl, ?_⟩; have n0_ := Aside0.mk (below_step (by repeat (first | (with_reducible first | exact HB.out | apply below_alloc | apply pw_below_drewN | apply below_drew1) | exact HB.out)) hb); clear HB; have HB := n0_; clear n0_; (try clear hb); (try clear hb2); (try clear hk); (try clear hi)))
    go_ret
    exact ⟨by first | rfl | (simp [errW_none, errW_some] <;> rfl) | (simp [*, errW_none, errW_some] <;> rfl), by repeat (first | (with_reducible first | exact HB.out | apply below_alloc | apply pw_below_drewN | apply below_drew1) | exact HB.out)⟩
   ·
    replace c5 := Bool.eq_false_iff.mpr c5
    subst c5
    have H1 : ((haversacklaw10_plainly.f kj2 a0).bind fun t331 => (if t331 = true then ((some (([] : List (S33)) : List (S33))).bind fun y332 => ((header_Addresses.f kj2 a0).bind fun t335 => (if y332.length + t335.length < 2932031007402 then ((some (y332 ++ t335 : List (S33))).bind fun y338 => ((header_Addresses.f kj2 a1).bind fun t341 => (if y338.length + t341.length < 2932031007402 then (if a0.size + 1 ≤ 9223372036854775807 then (if a0.size + 1 + a1.size ≤ 9223372036854775807 then ((header_Addresses.f kj2 ((a0 ++ (⟨#[44]⟩ : ByteArray)) ++ a1)).bind fun t347 => ((haversackref10_People.f kj2 t347 (y338 ++ t341)).bind fun t350 => (if t350 = true then (haversacklaw10_HeaderPeople.j1 kj2 a0) else (some false)))) else (none)) else (none)) else (none)))) else (none)))) else (haversacklaw10_HeaderPeople.j1 kj2 a0))) = some r := by rw [if_neg (show ¬ (false = true) by decide)] at H; exact H
    clear H
    have H := H1
    clear H1
    replace H := Option.bind_eq_some_iff.mp H
    obtain ⟨t331, A80, H⟩ := H
    replace H : (if t331 = true then ((some (([] : List (S33)) : List (S33))).bind fun y332 => ((header_Addresses.f kj2 a0).bind fun t335 => (if y332.length + t335.length < 2932031007402 then ((some (y332 ++ t335 : List (S33))).bind fun y338 => ((header_Addresses.f kj2 a1).bind fun t341 => (if y338.length + t341.length < 2932031007402 then (if a0.size + 1 ≤ 9223372036854775807 then (if a0.size + 1 + a1.size ≤ 9223372036854775807 then ((header_Addresses.f kj2 ((a0 ++ (⟨#[44]⟩ : ByteArray)) ++ a1)).bind fun t347 => ((haversackref10_People.f kj2 t347 (y338 ++ t341)).bind fun t350 => (if t350 = true then (haversacklaw10_HeaderPeople.j1 kj2 a0) else (some false)))) else (none)) else (none)) else (none)))) else (none)))) else (haversacklaw10_HeaderPeople.j1 kj2 a0)) = some r := H
    have A8 := Aside0.mk A80
    clear A80
    have HC9 := Aside0.mk H
    clear H
    go_upto_if 20 with (first | ((with_reducible refine gate_callee (f := 19) rfl ?_); refine goesL_ (some 20) rfl rfl Tryd.func19 (by kernel_rfl) rfl #[.string a0] rfl (by (try simp only [List.map_toArray, List.map_cons, List.map_nil]); first | done | rfl | (simp only [List.length_drop, List.length_take]; rfl)) ?_; (with_reducible refine (haversacklaw10_plainly.calls kj2 a0 t331 _ A8.out).mono ?_); rintro e w' ⟨rfl, ⟨nd, rfl⟩⟩; refine ⟨_, rfl, ?_⟩))
    (try simp only [Act.put, List.setIfInBounds_toArray, List.set_cons_zero, List.set_cons_succ])
    go_cut [] (fun wc => ∃ (kq : Nat), Aside0 (haversacklaw10_HeaderPeople.j1 kq a0 = some r) ∧ Aside0 (kq ≤ kj2) ∧ Aside0 (Below w.heap.size w wc))
    case first =>
     have H := HC9.out
     clear HC9
     by_cases c10 : t331 = true
     ·
      subst c10
      have H1 : ((some (([] : List (S33)) : List (S33))).bind fun y332 => ((header_Addresses.f kj2 a0).bind fun t335 => (if y332.length + t335.length < 2932031007402 then ((some (y332 ++ t335 : List (S33))).bind fun y338 => ((header_Addresses.f kj2 a1).bind fun t341 => (if y338.length + t341.length < 2932031007402 then (if a0.size + 1 ≤ 9223372036854775807 then (if a0.size + 1 + a1.size ≤ 9223372036854775807 then ((header_Addresses.f kj2 ((a0 ++ (⟨#[44]⟩ : ByteArray)) ++ a1)).bind fun t347 => ((haversackref10_People.f kj2 t347 (y338 ++ t341)).bind fun t350 => (if t350 = true then (haversacklaw10_HeaderPeople.j1 kj2 a0) else (some false)))) else (none)) else (none)) else (none)))) else (none)))) = some r := by rw [if_pos rfl] at H; exact H
      clear H
      have H := H1
      clear H1
      obtain ⟨y332, hy332⟩ : ∃ y_ : List (S33), y_ = (([] : List (S33))) := ⟨_, rfl⟩
      replace H : ((header_Addresses.f kj2 a0).bind fun t335 => (if y332.length + t335.length < 2932031007402 then ((some (y332 ++ t335 : List (S33))).bind fun y338 => ((header_Addresses.f kj2 a1).bind fun t341 => (if y338.length + t341.length < 2932031007402 then (if a0.size + 1 ≤ 9223372036854775807 then (if a0.size + 1 + a1.size ≤ 9223372036854775807 then ((header_Addresses.f kj2 ((a0 ++ (⟨#[44]⟩ : ByteArray)) ++ a1)).bind fun t347 => ((haversackref10_People.f kj2 t347 (y338 ++ t341)).bind fun t350 => (if t350 = true then (haversacklaw10_HeaderPeople.j1 kj2 a0) else (some false)))) else (none)) else (none)) else (none)))) else (none))) = some r := by first | (rw [hy332]; with_reducible exact H) | (have H2_ := (Option.bind_some _ _).symm.trans H; rw [hy332]; with_reducible exact H2_) | (have H2_ := (Option.bind_some _ _).symm.trans H; with_reducible exact H2_) | with_reducible exact H | (rw [hy332]; exact H) | exact H
      have Ny332 := Aside0.mk hy332
      clear hy332
      replace H := Option.bind_eq_some_iff.mp H
      obtain ⟨t335, A110, H⟩ := H
      replace H : (if y332.length + t335.length < 2932031007402 then ((some (y332 ++ t335 : List (S33))).bind fun y338 => ((header_Addresses.f kj2 a1).bind fun t341 => (if y338.length + t341.length < 2932031007402 then (if a0.size + 1 ≤ 9223372036854775807 then (if a0.size + 1 + a1.size ≤ 9223372036854775807 then ((header_Addresses.f kj2 ((a0 ++ (⟨#[44]⟩ : ByteArray)) ++ a1)).bind fun t347 => ((haversackref10_People.f kj2 t347 (y338 ++ t341)).bind fun t350 => (if t350 = true then (haversacklaw10_HeaderPeople.j1 kj2 a0) else (some false)))) else (none)) else (none)) else (none)))) else (none)) = some r := H
      have A11 := Aside0.mk A110
      clear A110
      by_cases c12 : y332.length + t335.length < 2932031007402
      ·
       rw [if_pos c12] at H
       have LMc12 := Aside0.mk c12
       clear c12
       obtain ⟨y338, hy338⟩ : ∃ y_ : List (S33), y_ = (y332 ++ t335) := ⟨_, rfl⟩
       replace H : ((header_Addresses.f kj2 a1).bind fun t341 => (if y338.length + t341.length < 2932031007402 then (if a0.size + 1 ≤ 9223372036854775807 then (if a0.size + 1 + a1.size ≤ 9223372036854775807 then ((header_Addresses.f kj2 ((a0 ++ (⟨#[44]⟩ : ByteArray)) ++ a1)).bind fun t347 => ((haversackref10_People.f kj2 t347 (y338 ++ t341)).bind fun t350 => (if t350 = true then (haversacklaw10_HeaderPeople.j1 kj2 a0) else (some false)))) else (none)) else (none)) else (none))) = some r := by first | (rw [hy338]; with_reducible exact H) | (have H2_ := (Option.bind_some _ _).symm.trans H; rw [hy338]; with_reducible exact H2_) | (have H2_ := (Option.bind_some _ _).symm.trans H; with_reducible exact H2_) | with_reducible exact H | (rw [hy338]; exact H) | exact H
       have Ny338 := Aside0.mk hy338
       clear hy338
       replace H := Option.bind_eq_some_iff.mp H
       obtain ⟨t341, A130, H⟩ := H
       replace H : (if y338.length + t341.length < 2932031007402 then (if a0.size + 1 ≤ 9223372036854775807 then (if a0.size + 1 + a1.size ≤ 9223372036854775807 then ((header_Addresses.f kj2 ((a0 ++ (⟨#[44]⟩ : ByteArray)) ++ a1)).bind fun t347 => ((haversackref10_People.f kj2 t347 (y338 ++ t341)).bind fun t350 => (if t350 = true then (haversacklaw10_HeaderPeople.j1 kj2 a0) else (some false)))) else (none)) else (none)) else (none)) = some r := H
       have A13 := Aside0.mk A130
       clear A130
       by_cases c14 : y338.length + t341.length < 2932031007402
       ·
        rw [if_pos c14] at H
        have LMc14 := Aside0.mk c14
        clear c14
        obtain ⟨y344, hy344⟩ : ∃ y_ : List (S33), y_ = (y338 ++ t341) := ⟨_, rfl⟩
        replace H : (if a0.size + 1 ≤ 9223372036854775807 then (if a0.size + 1 + a1.size ≤ 9223372036854775807 then ((header_Addresses.f kj2 ((a0 ++ (⟨#[44]⟩ : ByteArray)) ++ a1)).bind fun t347 => ((haversackref10_People.f kj2 t347 y344).bind fun t350 => (if t350 = true then (haversacklaw10_HeaderPeople.j1 kj2 a0) else (some false)))) else (none)) else (none)) = some r := by first | (rw [hy344]; with_reducible exact H) | (have H2_ := (Option.bind_some _ _).symm.trans H; rw [hy344]; with_reducible exact H2_) | (have H2_ := (Option.bind_some _ _).symm.trans H; with_reducible exact H2_) | with_reducible exact H | (rw [hy344]; exact H) | exact H
        have Ny344 := Aside0.mk hy344
        clear hy344
        by_cases c15 : a0.size + 1 ≤ 9223372036854775807
        ·
         rw [if_pos c15] at H
         have c15b0 := eq_true c15
         have c15b1 : decide (a0.size + 1 ≤ 9223372036854775807) = true := decide_eq_true c15
         try have c15b2 : (9223372036854775807 < a0.size + 1) = False := eq_false (Nat.not_lt.2 c15)
         by_cases c16 : a0.size + 1 + a1.size ≤ 9223372036854775807
         ·
          rw [if_pos c16] at H
          have c16b0 := eq_true c16
          have c16b1 : decide (a0.size + 1 + a1.size ≤ 9223372036854775807) = true := decide_eq_true c16
          try have c16b2 : (9223372036854775807 < a0.size + 1 + a1.size) = False := eq_false (Nat.not_lt.2 c16)
          replace H := Option.bind_eq_some_iff.mp H
          obtain ⟨t347, A170, H⟩ := H
          replace H : ((haversackref10_People.f kj2 t347 y344).bind fun t350 => (if t350 = true then (haversacklaw10_HeaderPeople.j1 kj2 a0) else (some false))) = some r := H
          have A17 := Aside0.mk A170
          clear A170
          replace H := Option.bind_eq_some_iff.mp H
          obtain ⟨t350, A180, H⟩ := H
          replace H : (if t350 = true then (haversacklaw10_HeaderPeople.j1 kj2 a0) else (some false)) = some r := H
          have A18 := Aside0.mk A180
          clear A180
          by_cases c19 : t350 = true
          ·
           subst c19
           have H1 : (haversacklaw10_HeaderPeople.j1 kj2 a0) = some r := by rw [if_pos rfl] at H; exact H
           clear H
           have H := H1
           clear H1
           have H' := Aside0.mk H
           clear H
           go_wp2_with (first | ((with_reducible refine gate_dst (N := 21) rfl ?_); (try (refine gate_guard (by rfl) ?_; dsimp only)); refine Kd.R_lit k33 _ 33 ?hg (N := 21) ?hd (xs := ([] : List (S33))) (inner := []) (ok := fun _ => True) (okp := fun _ => True) ?hr ?hp (fun _ hk => hk) trivial (Below.refl _ _) (Nat.le_refl _) (by simp) ?_; (case hd => rfl); (case hg => rfl); (case hr => first | (go_simp; done) | (go_simp; rfl)); (case hp => exact (Reps.none _ _)); intro v333 w20 ho21 hb hg_ hnew_; clear hg_ hnew_; (first | rw [← Ny332.out] at ho21 | (simp only [Int.reduceToNat] at ho21; rw [← Ny332.out] at ho21)); have n0_ := Aside0.mk (Kd.R_lower ho21 (below_size (by repeat (first | (with_reducible first | exact HB.out | apply below_alloc | apply pw_below_drewN | apply below_drew1) | exact HB.out)))); have n1_ := Aside0.mk (below_step (by repeat (first | (with_reducible first | exact HB.out | apply below_alloc | apply pw_below_drewN | apply below_drew1) | exact HB.out)) hb); clear HB; have HO334 := n0_; have HB := n1_; clear n0_ n1_; clear hb ho21) | ((with_reducible refine gate_callee (f := 17) rfl ?_); refine goesL_ (some 23) rfl rfl Tryd.func17 (by kernel_rfl) rfl #[.string a0] rfl (by (try simp only [List.map_toArray, List.map_cons, List.map_nil]); first | done | rfl | (simp only [List.length_drop, List.length_take]; rfl)) ?_; (with_reducible refine (header_Addresses.calls kj2 a0 t335 _ A11.out).mono ?_); rintro e w22 ⟨v336, rfl, ho0, hb⟩; refine ⟨_, rfl, ?_⟩; have n0_ := Aside0.mk (Kd.R_elder' (by (with_reducible repeat (first | apply Kd.R_alloc | apply Kd.R_drewN | apply Kd.R_drew)); exact HO334.out) (Kd.R_base ho0) hb); have n1_ := Aside0.mk (Kd.R_lower (Kd.R_new' ho0 (Kd.R_lt (by (with_reducible repeat (first | apply Kd.R_alloc | apply Kd.R_drewN | apply Kd.R_drew)); exact HO334.out))) (below_size (by repeat (first | (with_reducible first | exact HB.out | apply below_alloc | apply pw_below_drewN | apply below_drew1) | exact HB.out)))); have n2_ := Aside0.mk (below_step (by repeat (first | (with_reducible first | exact HB.out | apply below_alloc | apply pw_below_drewN | apply below_drew1) | exact HB.out)) hb); clear HO334; clear HB; have HO334 := n0_; have HO337 := n1_; have HB := n2_; clear n0_ n1_ n2_; (try clear hb); (try clear hb2); (try clear hk); (try clear hi); (try clear ho0); obtain ⟨Ao24, co24, eo24⟩ := Kd.R_slice HO337.out; subst eo24) | ((with_reducible refine gate_builtin (b := .append) (xs := #[.tmp 21, .tmp 23]) rfl ?_); (try (refine gate_guard (by rfl) ?_; dsimp only)); at_builtin; refine Kd.R_append_rows k33 (w0 := w) w.heap.size rfl (.tmp 21) (.tmp 23) 30 33 (.agg #[(.string ⟨#[]⟩), (.string ⟨#[]⟩), (.string ⟨#[]⟩)]) 48 rfl Tryd.underlying30 info33 rfl (by decide) (by omega) v333 y332 t335 _ _ _ (fun k_ => some k_ ≠ (.slice Ao24 t335.length co24 : Value).ownBlock) (fun _ => False) rfl rfl ?aO ?aR (fun _ _ h => h) (fun _ h => h.elim) ?aF ?aB ?aS ?aL ?_; (case aR => repeat (first | exact (Kd.R_reads' HO337.out).2.2 | (with_reducible refine Kd.C_alloc ?_ _) | (with_reducible refine Kd.C_drewN ?_ _) | (with_reducible refine Kd.C_drew ?_))); (case aB => exact (by repeat (first | (with_reducible first | exact HB.out | apply below_alloc | apply pw_below_drewN | apply below_drew1) | exact HB.out))); (case aF => exact (fun k_ hk => Kd.fresh' (Kd.R_lt (by (with_reducible repeat (first | apply Kd.R_alloc | apply Kd.R_drewN | apply Kd.R_drew)); exact HO337.out)) k_ hk)); (case aO => exact (by (with_reducible repeat (first | apply Kd.R_alloc | apply Kd.R_drewN | apply Kd.R_drew)); exact Kd.R_mono HO334.out (fun _ hk => hk.2))); (case aS => exact (below_size (by repeat (first | (with_reducible first | exact HB.out | apply below_alloc | apply pw_below_drewN | apply below_drew1) | exact HB.out)))); (case aL => have := LMc12.out; omega); intro v339 w23 ho hb hg hat; rw [← Ny338.out] at ho; have n0_ := Aside0.mk (Kd.R_after (ok := (fun _ => True)) (by (with_reducible repeat (first | apply Kd.R_alloc | apply Kd.R_drewN | apply Kd.R_drew)); exact HO337.out) hg hat); have n1_ := Aside0.mk (hb); have n2_ := Aside0.mk (ho); clear HO337; clear HB; clear HO334; have HO337 := n0_; have HB := n1_; have HO340 := n2_; clear n0_ n1_ n2_; clear ho hb hg hat) | ((with_reducible refine gate_callee (f := 17) rfl ?_); refine goesL_ (some 26) rfl rfl Tryd.func17 (by kernel_rfl) rfl #[.string a1] rfl (by (try simp only [List.map_toArray, List.map_cons, List.map_nil]); first | done | rfl | (simp only [List.length_drop, List.length_take]; rfl)) ?_; (with_reducible refine (header_Addresses.calls kj2 a1 t341 _ A13.out).mono ?_); rintro e w25 ⟨v342, rfl, ho0, hb⟩; refine ⟨_, rfl, ?_⟩; have n0_ := Aside0.mk (Kd.R_elder' (by (with_reducible repeat (first | apply Kd.R_alloc | apply Kd.R_drewN | apply Kd.R_drew)); exact HO337.out) (Kd.R_base ho0) hb); have n1_ := Aside0.mk (Kd.R_elder' (by (with_reducible repeat (first | apply Kd.R_alloc | apply Kd.R_drewN | apply Kd.R_drew)); exact HO340.out) (Kd.R_base ho0) hb); have n2_ := Aside0.mk (Kd.R_lower (Kd.R_new' (Kd.R_new' ho0 (Kd.R_lt (by (with_reducible repeat (first | apply Kd.R_alloc | apply Kd.R_drewN | apply Kd.R_drew)); exact HO337.out))) (Kd.R_lt (by (with_reducible repeat (first | apply Kd.R_alloc | apply Kd.R_drewN | apply Kd.R_drew)); exact HO340.out))) (below_size (by repeat (first | (with_reducible first | exact HB.out | apply below_alloc | apply pw_below_drewN | apply below_drew1) | exact HB.out)))); have n3_ := Aside0.mk (below_step (by repeat (first | (with_reducible first | exact HB.out | apply below_alloc | apply pw_below_drewN | apply below_drew1) | exact HB.out)) hb); clear HO337; clear HO340; clear HB; have HO337 := n0_; have HO340 := n1_; have HO343 := n2_; have HB := n3_; clear n0_ n1_ n2_ n3_; (try clear hb); (try clear hb2); (try clear hk); (try clear hi); (try clear ho0); obtain ⟨Ao27, co27, eo27⟩ := Kd.R_slice HO343.out; subst eo27) | ((with_reducible refine gate_builtin (b := .append) (xs := #[.tmp 24, .tmp 26]) rfl ?_); (try (refine gate_guard (by rfl) ?_; dsimp only)); at_builtin; refine Kd.R_append_rows k33 (w0 := w) w.heap.size rfl (.tmp 24) (.tmp 26) 30 33 (.agg #[(.string ⟨#[]⟩), (.string ⟨#[]⟩), (.string ⟨#[]⟩)]) 48 rfl Tryd.underlying30 info33 rfl (by decide) (by omega) v339 y338 t341 _ _ _ (fun k_ => some k_ ≠ (.slice Ao24 t335.length co24 : Value).ownBlock ∧ some k_ ≠ (.slice Ao27 t341.length co27 : Value).ownBlock) (fun _ => False) rfl rfl ?aO ?aR (fun _ _ h => h) (fun _ h => h.elim) ?aF ?aB ?aS ?aL ?_; (case aR => repeat (first | exact (Kd.R_reads' HO343.out).2.2 | (with_reducible refine Kd.C_alloc ?_ _) | (with_reducible refine Kd.C_drewN ?_ _) | (with_reducible refine Kd.C_drew ?_))); (case aB => exact (by repeat (first | (with_reducible first | exact HB.out | apply below_alloc | apply pw_below_drewN | apply below_drew1) | exact HB.out))); (case aF => exact (fun k_ hk => ⟨Kd.fresh' (Kd.R_lt (by (with_reducible repeat (first | apply Kd.R_alloc | apply Kd.R_drewN | apply Kd.R_drew)); exact HO337.out)) k_ hk, Kd.fresh' (Kd.R_lt (by (with_reducible repeat (first | apply Kd.R_alloc | apply Kd.R_drewN | apply Kd.R_drew)); exact HO343.out)) k_ hk⟩)); (case aO => exact (by (with_reducible repeat (first | apply Kd.R_alloc | apply Kd.R_drewN | apply Kd.R_drew)); exact HO340.out)); (case aS => exact (below_size (by repeat (first | (with_reducible first | exact HB.out | apply below_alloc | apply pw_below_drewN | apply below_drew1) | exact HB.out)))); (case aL => have := LMc14.out; omega); intro v345 w26 ho hb hg hat; rw [← Ny344.out] at ho; have n0_ := Aside0.mk (Kd.R_after (ok := (fun k_ => some k_ ≠ (.slice Ao27 t341.length co27 : Value).ownBlock)) (by (with_reducible repeat (first | apply Kd.R_alloc | apply Kd.R_drewN | apply Kd.R_drew)); exact Kd.R_mono HO337.out (fun _ hk => ⟨hk.2, hk.1.2⟩)) hg hat); have n1_ := Aside0.mk (Kd.R_after (ok := (fun k_ => some k_ ≠ (.slice Ao24 t335.length co24 : Value).ownBlock)) (by (with_reducible repeat (first | apply Kd.R_alloc | apply Kd.R_drewN | apply Kd.R_drew)); exact Kd.R_mono HO343.out (fun _ hk => ⟨hk.1.2, hk.2⟩)) hg hat); have n2_ := Aside0.mk (hb); have n3_ := Aside0.mk (ho); clear HO337; clear HO343; clear HB; clear HO340; have HO337 := n0_; have HO343 := n1_; have HB := n2_; have HO346 := n3_; clear n0_ n1_ n2_ n3_; clear ho hb hg hat) | ((with_reducible refine gate_callee (f := 17) rfl ?_); refine goesL_ (some 32) rfl rfl Tryd.func17 (by kernel_rfl) rfl #[.string ((a0 ++ (⟨#[44]⟩ : ByteArray)) ++ a1)] rfl (by (try simp only [List.map_toArray, List.map_cons, List.map_nil]); first | done | rfl | (simp only [List.length_drop, List.length_take]; rfl)) ?_; (with_reducible refine (header_Addresses.calls kj2 ((a0 ++ (⟨#[44]⟩ : ByteArray)) ++ a1) t347 _ A17.out).mono ?_); rintro e w28 ⟨v348, rfl, ho0, hb⟩; refine ⟨_, rfl, ?_⟩; have n0_ := Aside0.mk (Kd.R_elder' (by (with_reducible repeat (first | apply Kd.R_alloc | apply Kd.R_drewN | apply Kd.R_drew)); exact HO337.out) (Kd.R_base ho0) hb); have n1_ := Aside0.mk (Kd.R_elder' (by (with_reducible repeat (first | apply Kd.R_alloc | apply Kd.R_drewN | apply Kd.R_drew)); exact HO343.out) (Kd.R_base ho0) hb); have n2_ := Aside0.mk (Kd.R_elder' (by (with_reducible repeat (first | apply Kd.R_alloc | apply Kd.R_drewN | apply Kd.R_drew)); exact HO346.out) (Kd.R_base ho0) hb); have n3_ := Aside0.mk (Kd.R_lower (Kd.R_new' (Kd.R_new' (Kd.R_new' ho0 (Kd.R_lt (by (with_reducible repeat (first | apply Kd.R_alloc | apply Kd.R_drewN | apply Kd.R_drew)); exact HO337.out))) (Kd.R_lt (by (with_reducible repeat (first | apply Kd.R_alloc | apply Kd.R_drewN | apply Kd.R_drew)); exact HO343.out))) (Kd.R_lt (by (with_reducible repeat (first | apply Kd.R_alloc | apply Kd.R_drewN | apply Kd.R_drew)); exact HO346.out))) (below_size (by repeat (first | (with_reducible first | exact HB.out | apply below_alloc | apply pw_below_drewN | apply below_drew1) | exact HB.out)))); have n4_ := Aside0.mk (below_step (by repeat (first | (with_reducible first | exact HB.out | apply below_alloc | apply pw_below_drewN | apply below_drew1) | exact HB.out)) hb); clear HO337; clear HO343; clear HO346; clear HB; have HO337 := n0_; have HO343 := n1_; have HO346 := n2_; have HO349 := n3_; have HB := n4_; clear n0_ n1_ n2_ n3_ n4_; (try clear hb); (try clear hb2); (try clear hk); (try clear hi); (try clear ho0); obtain ⟨Ao29, co29, eo29⟩ := Kd.R_slice HO349.out; subst eo29; obtain ⟨Ao30, co30, eo30⟩ := Kd.R_slice HO346.out; subst eo30) | ((with_reducible refine gate_callee (f := 16) rfl ?_); refine goesL_ (some 34) rfl rfl Tryd.func16 (by kernel_rfl) rfl #[.slice Ao29 t347.length co29, .slice Ao30 y344.length co30] rfl (by (try simp only [List.map_toArray, List.map_cons, List.map_nil]); first | done | rfl | (simp only [List.length_drop, List.length_take]; rfl)) ?_; (with_reducible refine (haversackref10_People.calls kj2 _ _ t347 _ _ y344 true _ ?side1 ?side2 ?side3 ?side4 A18.out).mono ?_); (case side1 => repeat (first | exact (Kd.R_reads' HO349.out).2.2 | (with_reducible refine Kd.C_alloc ?_ _) | (with_reducible refine Kd.C_drewN ?_ _) | (with_reducible refine Kd.C_drew ?_))); (case side2 => exact (Kd.R_reads' HO349.out).2.1); (case side3 => repeat (first | exact (Kd.R_reads' HO346.out).2.2 | (with_reducible refine Kd.C_alloc ?_ _) | (with_reducible refine Kd.C_drewN ?_ _) | (with_reducible refine Kd.C_drew ?_))); (case side4 => exact (Kd.R_reads' HO346.out).2.1); rintro e w' ⟨rfl, ⟨nd, rfl⟩⟩; refine ⟨_, rfl, ?_⟩))
           go_meet
           case rel => exact ⟨_, H', ⟨by have := HJ2.out; first | omega | exact Nat.le_refl _⟩, ⟨by repeat (first | (with_reducible first | exact HB.out | apply below_alloc | apply pw_below_drewN | apply below_drew1) | exact HB.out)⟩⟩
          ·
           replace c19 := Bool.eq_false_iff.mpr c19
           subst c19
           have H1 : (some false) = some r := by rw [if_neg (show ¬ (false = true) by decide)] at H; exact H
           clear H
           have H := H1
           clear H1
           obtain rfl := Option.some.inj H
           go_wp2_with (first | ((with_reducible refine gate_dst (N := 21) rfl ?_); (try (refine gate_guard (by rfl) ?_; dsimp only)); refine Kd.R_lit k33 _ 33 ?hg (N := 21) ?hd (xs := ([] : List (S33))) (inner := []) (ok := fun _ => True) (okp := fun _ => True) ?hr ?hp (fun _ hk => hk) trivial (Below.refl _ _) (Nat.le_refl _) (by simp) ?_; (case hd => rfl); (case hg => rfl); (case hr => first | (go_simp; done) | (go_simp; rfl)); (case hp => exact (Reps.none _ _)); intro v333 w31 ho32 hb hg_ hnew_; clear hg_ hnew_; (first | rw [← Ny332.out] at ho32 | (simp only [Int.reduceToNat] at ho32; rw [← Ny332.out] at ho32)); have n0_ := Aside0.mk (Kd.R_lower ho32 (below_size (by repeat (first | (with_reducible first | exact HB.out | apply below_alloc | apply pw_below_drewN | apply below_drew1) | exact HB.out)))); have n1_ := Aside0.mk (below_step (by repeat (first | (with_reducible first | exact HB.out | apply below_alloc | apply pw_below_drewN | apply below_drew1) | exact HB.out)) hb); clear HB; have HO334 := n0_; have HB := n1_; clear n0_ n1_; clear hb ho32) | ((with_reducible refine gate_callee (f := 17) rfl ?_); refine goesL_ (some 23) rfl rfl Tryd.func17 (by kernel_rfl) rfl #[.string a0] rfl (by (try simp only [List.map_toArray, List.map_cons, List.map_nil]); first | done | rfl | (simp only [List.length_drop, List.length_take]; rfl)) ?_; (with_reducible refine (header_Addresses.calls kj2 a0 t335 _ A11.out).mono ?_); rintro e w33 ⟨v336, rfl, ho0, hb⟩; refine ⟨_, rfl, ?_⟩; have n0_ := Aside0.mk (Kd.R_elder' (by (with_reducible repeat (first | apply Kd.R_alloc | apply Kd.R_drewN | apply Kd.R_drew)); exact HO334.out) (Kd.R_base ho0) hb); have n1_ := Aside0.mk (Kd.R_lower (Kd.R_new' ho0 (Kd.R_lt (by (with_reducible repeat (first | apply Kd.R_alloc | apply Kd.R_drewN | apply Kd.R_drew)); exact HO334.out))) (below_size (by repeat (first | (with_reducible first | exact HB.out | apply below_alloc | apply pw_below_drewN | apply below_drew1) | exact HB.out)))); have n2_ := Aside0.mk (below_step (by repeat (first | (with_reducible first | exact HB.out | apply below_alloc | apply pw_below_drewN | apply below_drew1) | exact HB.out)) hb); clear HO334; clear HB; have HO334 := n0_; have HO337 := n1_; have HB := n2_; clear n0_ n1_ n2_; (try clear hb); (try clear hb2); (try clear hk); (try clear hi); (try clear ho0); obtain ⟨Ao35, co35, eo35⟩ := Kd.R_slice HO337.out; subst eo35) | ((with_reducible refine gate_builtin (b := .append) (xs := #[.tmp 21, .tmp 23]) rfl ?_); (try (refine gate_guard (by rfl) ?_; dsimp only)); at_builtin; refine Kd.R_append_rows k33 (w0 := w) w.heap.size rfl (.tmp 21) (.tmp 23) 30 33 (.agg #[(.string ⟨#[]⟩), (.string ⟨#[]⟩), (.string ⟨#[]⟩)]) 48 rfl Tryd.underlying30 info33 rfl (by decide) (by omega) v333 y332 t335 _ _ _ (fun k_ => some k_ ≠ (.slice Ao35 t335.length co35 : Value).ownBlock) (fun _ => False) rfl rfl ?aO ?aR (fun _ _ h => h) (fun _ h => h.elim) ?aF ?aB ?aS ?aL ?_; (case aR => repeat (first | exact (Kd.R_reads' HO337.out).2.2 | (with_reducible refine Kd.C_alloc ?_ _) | (with_reducible refine Kd.C_drewN ?_ _) | (with_reducible refine Kd.C_drew ?_))); (case aB => exact (by repeat (first | (with_reducible first | exact HB.out | apply below_alloc | apply pw_below_drewN | apply below_drew1) | exact HB.out))); (case aF => exact (fun k_ hk => Kd.fresh' (Kd.R_lt (by (with_reducible repeat (first | apply Kd.R_alloc | apply Kd.R_drewN | apply Kd.R_drew)); exact HO337.out)) k_ hk)); (case aO => exact (by (with_reducible repeat (first | apply Kd.R_alloc | apply Kd.R_drewN | apply Kd.R_drew)); exact Kd.R_mono HO334.out (fun _ hk => hk.2))); (case aS => exact (below_size (by repeat (first | (with_reducible first | exact HB.out | apply below_alloc | apply pw_below_drewN | apply below_drew1) | exact HB.out)))); (case aL => have := LMc12.out; omega); intro v339 w34 ho hb hg hat; rw [← Ny338.out] at ho; have n0_ := Aside0.mk (Kd.R_after (ok := (fun _ => True)) (by (with_reducible repeat (first | apply Kd.R_alloc | apply Kd.R_drewN | apply Kd.R_drew)); exact HO337.out) hg hat); have n1_ := Aside0.mk (hb); have n2_ := Aside0.mk (ho); clear HO337; clear HB; clear HO334; have HO337 := n0_; have HB := n1_; have HO340 := n2_; clear n0_ n1_ n2_; clear ho hb hg hat) | ((with_reducible refine gate_callee (f := 17) rfl ?_); refine goesL_ (some 26) rfl rfl Tryd.func17 (by kernel_rfl) rfl #[.string a1] rfl (by (try simp only [List.map_toArray, List.map_cons, List.map_nil]); first | done | rfl | (simp only [List.length_drop, List.length_take]; rfl)) ?_; (with_reducible refine (header_Addresses.calls kj2 a1 t341 _ A13.out).mono ?_); rintro e w36 ⟨v342, rfl, ho0, hb⟩; refine ⟨_, rfl, ?_⟩; have n0_ := Aside0.mk (Kd.R_elder' (by (with_reducible repeat (first | apply Kd.R_alloc | apply Kd.R_drewN | apply Kd.R_drew)); exact HO337.out) (Kd.R_base ho0) hb); have n1_ := Aside0.mk (Kd.R_elder' (by (with_reducible repeat (first | apply Kd.R_alloc | apply Kd.R_drewN | apply Kd.R_drew)); exact HO340.out) (Kd.R_base ho0) hb); have n2_ := Aside0.mk (Kd.R_lower (Kd.R_new' (Kd.R_new' ho0 (Kd.R_lt (by (with_reducible repeat (first | apply Kd.R_alloc | apply Kd.R_drewN | apply Kd.R_drew)); exact HO337.out))) (Kd.R_lt (by (with_reducible repeat (first | apply Kd.R_alloc | apply Kd.R_drewN | apply Kd.R_drew)); exact HO340.out))) (below_size (by repeat (first | (with_reducible first | exact HB.out | apply below_alloc | apply pw_below_drewN | apply below_drew1) | exact HB.out)))); have n3_ := Aside0.mk (below_step (by repeat (first | (with_reducible first | exact HB.out | apply below_alloc | apply pw_below_drewN | apply below_drew1) | exact HB.out)) hb); clear HO337; clear HO340; clear HB; have HO337 := n0_; have HO340 := n1_; have HO343 := n2_; have HB := n3_; clear n0_ n1_ n2_ n3_; (try clear hb); (try clear hb2); (try clear hk); (try clear hi); (try clear ho0); obtain ⟨Ao38, co38, eo38⟩ := Kd.R_slice HO343.out; subst eo38) | ((with_reducible refine gate_builtin (b := .append) (xs := #[.tmp 24, .tmp 26]) rfl ?_); (try (refine gate_guard (by rfl) ?_; dsimp only)); at_builtin; refine Kd.R_append_rows k33 (w0 := w) w.heap.size rfl (.tmp 24) (.tmp 26) 30 33 (.agg #[(.string ⟨#[]⟩), (.string ⟨#[]⟩), (.string ⟨#[]⟩)]) 48 rfl Tryd.underlying30 info33 rfl (by decide) (by omega) v339 y338 t341 _ _ _ (fun k_ => some k_ ≠ (.slice Ao35 t335.length co35 : Value).ownBlock ∧ some k_ ≠ (.slice Ao38 t341.length co38 : Value).ownBlock) (fun _ => False) rfl rfl ?aO ?aR (fun _ _ h => h) (fun _ h => h.elim) ?aF ?aB ?aS ?aL ?_; (case aR => repeat (first | exact (Kd.R_reads' HO343.out).2.2 | (with_reducible refine Kd.C_alloc ?_ _) | (with_reducible refine Kd.C_drewN ?_ _) | (with_reducible refine Kd.C_drew ?_))); (case aB => exact (by repeat (first | (with_reducible first | exact HB.out | apply below_alloc | apply pw_below_drewN | apply below_drew1) | exact HB.out))); (case aF => exact (fun k_ hk => ⟨Kd.fresh' (Kd.R_lt (by (with_reducible repeat (first | apply Kd.R_alloc | apply Kd.R_drewN | apply Kd.R_drew)); exact HO337.out)) k_ hk, Kd.fresh' (Kd.R_lt (by (with_reducible repeat (first | apply Kd.R_alloc | apply Kd.R_drewN | apply Kd.R_drew)); exact HO343.out)) k_ hk⟩)); (case aO => exact (by (with_reducible repeat (first | apply Kd.R_alloc | apply Kd.R_drewN | apply Kd.R_drew)); exact HO340.out)); (case aS => exact (below_size (by repeat (first | (with_reducible first | exact HB.out | apply below_alloc | apply pw_below_drewN | apply below_drew1) | exact HB.out)))); (case aL => have := LMc14.out; omega); intro v345 w37 ho hb hg hat; rw [← Ny344.out] at ho; have n0_ := Aside0.mk (Kd.R_after (ok := (fun k_ => some k_ ≠ (.slice Ao38 t341.length co38 : Value).ownBlock)) (by (with_reducible repeat (first | apply Kd.R_alloc | apply Kd.R_drewN | apply Kd.R_drew)); exact Kd.R_mono HO337.out (fun _ hk => ⟨hk.2, hk.1.2⟩)) hg hat); have n1_ := Aside0.mk (Kd.R_after (ok := (fun k_ => some k_ ≠ (.slice Ao35 t335.length co35 : Value).ownBlock)) (by (with_reducible repeat (first | apply Kd.R_alloc | apply Kd.R_drewN | apply Kd.R_drew)); exact Kd.R_mono HO343.out (fun _ hk => ⟨hk.1.2, hk.2⟩)) hg hat); have n2_ := Aside0.mk (hb); have n3_ := Aside0.mk (ho); clear HO337; clear HO343; clear HB; clear HO340; have HO337 := n0_; have HO343 := n1_; have HB := n2_; have HO346 := n3_; clear n0_ n1_ n2_ n3_; clear ho hb hg hat) | ((with_reducible refine gate_callee (f := 17) rfl ?_); refine goesL_ (some 32) rfl rfl Tryd.func17 (by kernel_rfl) rfl #[.string ((a0 ++ (⟨#[44]⟩ : ByteArray)) ++ a1)] rfl (by (try simp only [List.map_toArray, List.map_cons, List.map_nil]); first | done | rfl | (simp only [List.length_drop, List.length_take]; rfl)) ?_; (with_reducible refine (header_Addresses.calls kj2 ((a0 ++ (⟨#[44]⟩ : ByteArray)) ++ a1) t347 _ A17.out).mono ?_); rintro e w39 ⟨v348, rfl, ho0, hb⟩; refine ⟨_, rfl, ?_⟩; have n0_ := Aside0.mk (Kd.R_elder' (by (with_reducible repeat (first | apply Kd.R_alloc | apply Kd.R_drewN | apply Kd.R_drew)); exact HO337.out) (Kd.R_base ho0) hb); have n1_ := Aside0.mk (Kd.R_elder' (by (with_reducible repeat (first | apply Kd.R_alloc | apply Kd.R_drewN | apply Kd.R_drew)); exact HO343.out) (Kd.R_base ho0) hb); have n2_ := Aside0.mk (Kd.R_elder' (by (with_reducible repeat (first | apply Kd.R_alloc | apply Kd.R_drewN | apply Kd.R_drew)); exact HO346.out) (Kd.R_base ho0) hb); have n3_ := Aside0.mk (Kd.R_lower (Kd.R_new' (Kd.R_new' (Kd.R_new' ho0 (Kd.R_lt (by (with_reducible repeat (first | apply Kd.R_alloc | apply Kd.R_drewN | apply Kd.R_drew)); exact HO337.out))) (Kd.R_lt (by (with_reducible repeat (first | apply Kd.R_alloc | apply Kd.R_drewN | apply Kd.R_drew)); exact HO343.out))) (Kd.R_lt (by (with_reducible repeat (first | apply Kd.R_alloc | apply Kd.R_drewN | apply Kd.R_drew)); exact HO346.out))) (below_size (by repeat (first | (with_reducible first | exact HB.out | apply below_alloc | apply pw_below_drewN | apply below_drew1) | exact HB.out)))); have n4_ := Aside0.mk (below_step (by repeat (first | (with_reducible first | exact HB.out | apply below_alloc | apply pw_below_drewN | apply below_drew1) | exact HB.out)) hb); clear HO337; clear HO343; clear HO346; clear HB; have HO337 := n0_; have HO343 := n1_; have HO346 := n2_; have HO349 := n3_; have HB := n4_; clear n0_ n1_ n2_ n3_ n4_; (try clear hb); (try clear hb2); (try clear hk); (try clear hi); (try clear ho0); obtain ⟨Ao40, co40, eo40⟩ := Kd.R_slice HO349.out; subst eo40; obtain ⟨Ao41, co41, eo41⟩ := Kd.R_slice HO346.out; subst eo41) | ((with_reducible refine gate_callee (f := 16) rfl ?_); refine goesL_ (some 34) rfl rfl Tryd.func16 (by kernel_rfl) rfl #[.slice Ao40 t347.length co40, .slice Ao41 y344.length co41] rfl (by (try simp only [List.map_toArray, List.map_cons, List.map_nil]); first | done | rfl | (simp only [List.length_drop, List.length_take]; rfl)) ?_; (with_reducible refine (haversackref10_People.calls kj2 _ _ t347 _ _ y344 false _ ?side1 ?side2 ?side3 ?side4 A18.out).mono ?_); (case side1 => repeat (first | exact (Kd.R_reads' HO349.out).2.2 | (with_reducible refine Kd.C_alloc ?_ _) | (with_reducible refine Kd.C_drewN ?_ _) | (with_reducible refine Kd.C_drew ?_))); (case side2 => exact (Kd.R_reads' HO349.out).2.1); (case side3 => repeat (first | exact (Kd.R_reads' HO346.out).2.2 | (with_reducible refine Kd.C_alloc ?_ _) | (with_reducible refine Kd.C_drewN ?_ _) | (with_reducible refine Kd.C_drew ?_))); (case side4 => exact (Kd.R_reads' HO346.out).2.1); rintro e w' ⟨rfl, ⟨nd, rfl⟩⟩; refine ⟨_, rfl, ?_⟩))
           go_ret
           exact ⟨by first | rfl | (simp [errW_none, errW_some] <;> rfl) | (simp [*, errW_none, errW_some] <;> rfl), by repeat (first | (with_reducible first | exact HB.out | apply below_alloc | apply pw_below_drewN | apply below_drew1) | exact HB.out)⟩
         ·
          rw [if_neg c16] at H
          exact absurd H (by simp)
        ·
         rw [if_neg c15] at H
         exact absurd H (by simp)
       ·
        rw [if_neg c14] at H
        exact absurd H (by simp)
      ·
       rw [if_neg c12] at H
       exact absurd H (by simp)
     ·
      replace c10 := Bool.eq_false_iff.mpr c10
      subst c10
      have H1 : (haversacklaw10_HeaderPeople.j1 kj2 a0) = some r := by rw [if_neg (show ¬ (false = true) by decide)] at H; exact H
      clear H
      have H := H1
      clear H1
      have H' := Aside0.mk H
      clear H
      go_wp2
      go_meet
      case rel => exact ⟨_, H', ⟨by have := HJ2.out; first | omega | exact Nat.le_refl _⟩, ⟨by repeat (first | (with_reducible first | exact HB.out | apply below_alloc | apply pw_below_drewN | apply below_drew1) | exact HB.out)⟩⟩
    case rest =>
     clear HC9
     try clear c1
     try clear p2
     try clear c4
     try clear c4b0
     try clear c4b1
     try clear c5
     try clear c6
     try clear c10
     try clear c12
     try clear c14
     try clear c15
     try clear c15b0
     try clear c15b1
     try clear c15b2
     try clear c16
     try clear c16b0
     try clear c16b1
     try clear c16b2
     try clear c17
     try clear c19
     try clear p2
     obtain ⟨kq, HA, HJ8, HB⟩ := hcut
     cases kq with
     | zero => exact absurd HA.out (by simp [haversacklaw10_HeaderPeople.j1])
     | succ kj8 =>
      have H := HA.out
      clear HA
      simp only [haversacklaw10_HeaderPeople.j1] at H
      have H' := Aside0.mk H
      clear H
      go_wp2
      go_loopg [6, 38] kj8 (fun kq v6 v38 w' => ∃ (x6_3 : ByteArray) (x38_3 : Int), v6 = .string x6_3 ∧ v38 = .int .i64 x38_3 ∧ Aside0 (haversacklaw10_HeaderPeople.l0 kq a0 x6_3 (a0.size : Int) x38_3 = some r) ∧ Aside0 (kq ≤ kj8) ∧ Aside0 (Below w.heap.size w w'))
      case atStart => exact ⟨((⟨#[34]⟩ : ByteArray)), (0), (by first | with_reducible rfl | (simp only [pps, Nat.reduceAdd, Int.toNat_natCast]; done) | rfl | (simp; done) | (simp [*]; done)), (by first | with_reducible rfl | (simp only [pps, Nat.reduceAdd, Int.toNat_natCast]; done) | rfl | (simp; done) | (simp [*]; done)), H', ⟨Nat.le_refl _⟩, ⟨by repeat (first | (with_reducible first | exact HB.out | apply below_alloc | apply pw_below_drewN | apply below_drew1) | exact HB.out)⟩⟩
      case round =>
       clear H'
       try clear c1
       try clear p2
       try clear c4
       try clear c4b0
       try clear c4b1
       try clear c5
       try clear c6
       try clear c10
       try clear c12
       try clear c14
       try clear c15
       try clear c15b0
       try clear c15b1
       try clear c15b2
       try clear c16
       try clear c16b0
       try clear c16b1
       try clear c16b2
       try clear c17
       try clear c19
       try clear p2
       obtain ⟨x6_3, x38_3, rfl, rfl, HA, HK3, HB⟩ := hrel
       cases gk with
       | zero => exact absurd HA.out (by simp [haversacklaw10_HeaderPeople.l0])
       | succ k3 =>
        have H := HA.out
        clear HA
        simp only [haversacklaw10_HeaderPeople.l0] at H
        by_cases c42 : x38_3 < (a0.size : Int)
        ·
         rw [if_pos c42] at H
         have c42b0 : decide (x38_3 < (a0.size : Int)) = true := decide_eq_true c42
         clear c42
         by_cases c43 : x6_3.size + 1 ≤ 9223372036854775807
         ·
          rw [if_pos c43] at H
          have c43b0 := eq_true c43
          have c43b1 : decide (x6_3.size + 1 ≤ 9223372036854775807) = true := decide_eq_true c43
          try have c43b2 : (9223372036854775807 < x6_3.size + 1) = False := eq_false (Nat.not_lt.2 c43)
          by_cases c44 : 0 ≤ x38_3
          ·
           rw [if_pos c44] at H
           have c44b0 := eq_true c44
           have c44b1 : decide (0 ≤ x38_3) = true := decide_eq_true c44
           clear c44
           by_cases c45 : x38_3 ≤ (wrap64 (x38_3 + 1))
           ·
            rw [if_pos c45] at H
            have c45b0 := eq_true c45
            have c45b1 : decide (x38_3 ≤ (wrap64 (x38_3 + 1))) = true := decide_eq_true c45
            by_cases c46 : (wrap64 (x38_3 + 1)) ≤ (a0.size : Int)
            ·
             rw [if_pos c46] at H
             have c46b0 := eq_true c46
             have c46b1 : decide ((wrap64 (x38_3 + 1)) ≤ (a0.size : Int)) = true := decide_eq_true c46
             by_cases c47 : x6_3.size + 1 + ((((wrap64 (x38_3 + 1)) : Int).toNat - (x38_3 : Int).toNat)) ≤ 9223372036854775807
             ·
              rw [if_pos c47] at H
              have c47b0 := eq_true c47
              have c47b1 : decide (x6_3.size + 1 + ((((wrap64 (x38_3 + 1)) : Int).toNat - (x38_3 : Int).toNat)) ≤ 9223372036854775807) = true := decide_eq_true c47
              try have c47b2 : (9223372036854775807 < x6_3.size + 1 + ((((wrap64 (x38_3 + 1)) : Int).toNat - (x38_3 : Int).toNat))) = False := eq_false (Nat.not_lt.2 c47)
              have H' := Aside0.mk H
              clear H
              go_wp2
              go_roundg k3
              case measure => have := HJ2.out; have := HJ8.out; have := HK3.out; omega
              case rel => exact ⟨((x6_3 ++ (⟨#[92]⟩ : ByteArray)) ++ (a0.extract (x38_3 : Int).toNat ((wrap64 (x38_3 + 1)) : Int).toNat)), (wrap64 (x38_3 + 1)), (by first | with_reducible rfl | (simp only [pps, Nat.reduceAdd, Int.toNat_natCast]; done) | rfl | (simp; done) | (simp [*]; done)), (by first | with_reducible rfl | (simp only [pps, Nat.reduceAdd, Int.toNat_natCast]; done) | rfl | (simp; done) | (simp [*]; done)), H', ⟨by have := HJ2.out; have := HJ8.out; have := HK3.out; omega⟩, ⟨by repeat (first | (with_reducible first | exact HB.out | apply below_alloc | apply pw_below_drewN | apply below_drew1) | exact HB.out)⟩⟩
             ·
              rw [if_neg c47] at H
              exact absurd H (by simp)
            ·
             rw [if_neg c46] at H
             exact absurd H (by simp)
           ·
            rw [if_neg c45] at H
            exact absurd H (by simp)
          ·
           rw [if_neg c44] at H
           exact absurd H (by simp)
         ·
          rw [if_neg c43] at H
          exact absurd H (by simp)
        ·
         rw [if_neg c42] at H
         have c42b0 : decide (x38_3 < (a0.size : Int)) = false := decide_eq_false c42
         clear c42
         by_cases c48 : x6_3.size + 12 ≤ 9223372036854775807
         ·
          rw [if_pos c48] at H
          have c48b0 := eq_true c48
          have c48b1 : decide (x6_3.size + 12 ≤ 9223372036854775807) = true := decide_eq_true c48
          try have c48b2 : (9223372036854775807 < x6_3.size + 12) = False := eq_false (Nat.not_lt.2 c48)
          replace H := Option.bind_eq_some_iff.mp H
          obtain ⟨t351, A490, H⟩ := H
          replace H : (if (t351.length : Int) = 1 then (if 0 < (t351.length : Int) then (if ((rd_T33 t351 0).f1).toList = ([98, 111, 120] : List UInt8) then (haversacklaw10_HeaderPeople.j3 k3 a0 t351 (((rd_T33 t351 0).f2).toList != ([104, 111, 115, 116] : List UInt8))) else (haversacklaw10_HeaderPeople.j3 k3 a0 t351 true)) else (none)) else (haversacklaw10_HeaderPeople.j3 k3 a0 t351 true)) = some r := H
          have A49 := Aside0.mk A490
          clear A490
          have HC50 := Aside0.mk H
          clear H
          go_upto_region 14 with (first | ((with_reducible refine gate_callee (f := 17) rfl ?_); refine goesL_ (some 52) rfl rfl Tryd.func17 (by kernel_rfl) rfl #[.string (x6_3 ++ (⟨#[34, 32, 60, 98, 111, 120, 64, 104, 111, 115, 116, 62]⟩ : ByteArray))] rfl (by (try simp only [List.map_toArray, List.map_cons, List.map_nil]); first | done | rfl | (simp only [List.length_drop, List.length_take]; rfl)) ?_; (with_reducible refine (header_Addresses.calls k3 (x6_3 ++ (⟨#[34, 32, 60, 98, 111, 120, 64, 104, 111, 115, 116, 62]⟩ : ByteArray)) t351 _ A49.out).mono ?_); rintro e w51 ⟨v352, rfl, ho0, hb⟩; refine ⟨_, rfl, ?_⟩; have n0_ := Aside0.mk (Kd.R_lower ho0 (below_size (by repeat (first | (with_reducible first | exact HB.out | apply below_alloc | apply pw_below_drewN | apply below_drew1) | exact HB.out)))); have n1_ := Aside0.mk (below_step (by repeat (first | (with_reducible first | exact HB.out | apply below_alloc | apply pw_below_drewN | apply below_drew1) | exact HB.out)) hb); clear HB; have HO353 := n0_; have HB := n1_; clear n0_ n1_; (try clear hb); (try clear hb2); (try clear hk); (try clear hi); (try clear ho0)))
          (try simp only [Act.put, List.setIfInBounds_toArray, List.set_cons_zero, List.set_cons_succ])
          go_cut [69] (fun v69 wc => ∃ (kq : Nat) (x69_49 : Bool), v69 = .bool x69_49 ∧ Aside0 (haversacklaw10_HeaderPeople.j3 kq a0 t351 x69_49 = some r) ∧ Aside0 (kq ≤ k3) ∧ Aside0 (Kd.R k33 33 wc w.heap.size (fun _ => True) v352 t351) ∧ Aside0 (Below w.heap.size w wc))
          case first =>
           have H := HC50.out
           clear HC50
           by_cases c52 : (t351.length : Int) = 1
           ·
            rw [if_pos c52] at H
            have c52b0 : ((t351.length : Int) == 1) = true := beq_iff_eq.mpr c52
            have c52b1 : ((t351.length : Int) != 1) = false := bne_eq_false_iff_eq.mpr c52
            clear c52
            (first | rw [c52b0] | (simp only [i64_w, i32_w]; rw [c52b0]) | skip)
            by_cases c53 : 0 < (t351.length : Int)
            ·
             rw [if_pos c53] at H
             have c53b0 : decide (0 < (t351.length : Int)) = true := decide_eq_true c53
             have c53b1 : decide (0 < t351.length) = true := decide_eq_true (by omega)
             clear c53
             by_cases c54 : ((rd_T33 t351 0).f1).toList = ([98, 111, 120] : List UInt8)
             ·
              rw [if_pos c54] at H
              have c54b0 : (((rd_T33 t351 0).f1).toList == ([98, 111, 120] : List UInt8)) = true := beq_iff_eq.mpr c54
              have c54b1 : (((rd_T33 t351 0).f1).toList != ([98, 111, 120] : List UInt8)) = false := bne_eq_false_iff_eq.mpr c54
              clear c54
              have H' := Aside0.mk H
              clear H
              obtain ⟨Ao55, co55, eo55⟩ := Kd.R_slice HO353.out
              subst eo55
              have p354 : 0 ≤ (0 : Int) := (by omega)
              have q354 : 0 < (t351.length : Int) := of_decide_eq_true (by first | (with_reducible assumption) | assumption)
              obtain ⟨ad354, e354, hx354_0, hx354_1, hx354_2⟩ := at_T33 (Kd.R_reads' HO353.out).2.2 0 p354 q354
              cases e354
              have qi354 : (0 < t351.length) = True := eq_true (by omega)
              (try rw [show ((0 : Int)).toNat = 0 from rfl] at hx354_0)
              (try rw [show 0 * 3 = 0 from rfl] at hx354_0)
              (try rw [Addr.add_zero'] at hx354_0)
              (try rw [show ((0 : Int)).toNat = 0 from rfl] at hx354_1)
              (try rw [show 0 * 3 = 0 from rfl] at hx354_1)
              (try rw [Addr.add_zero'] at hx354_1)
              (try rw [show ((0 : Int)).toNat = 0 from rfl] at hx354_2)
              (try rw [show 0 * 3 = 0 from rfl] at hx354_2)
              (try rw [Addr.add_zero'] at hx354_2)
              replace p354 := eq_true p354
              replace q354 := eq_true q354
              have p355 : 0 ≤ (0 : Int) := (by omega)
              have q355 : 0 < (t351.length : Int) := of_decide_eq_true (by first | (with_reducible assumption) | assumption)
              obtain ⟨ad355, e355, hx355_0, hx355_1, hx355_2⟩ := at_T33 (Kd.R_reads' HO353.out).2.2 0 p355 q355
              obtain rfl : ad354 = ad355 := (by injection e355)
              have qi355 : (0 < t351.length) = True := eq_true (by omega)
              (try rw [show ((0 : Int)).toNat = 0 from rfl] at hx355_0)
              (try rw [show 0 * 3 = 0 from rfl] at hx355_0)
              (try rw [Addr.add_zero'] at hx355_0)
              (try rw [show ((0 : Int)).toNat = 0 from rfl] at hx355_1)
              (try rw [show 0 * 3 = 0 from rfl] at hx355_1)
              (try rw [Addr.add_zero'] at hx355_1)
              (try rw [show ((0 : Int)).toNat = 0 from rfl] at hx355_2)
              (try rw [show 0 * 3 = 0 from rfl] at hx355_2)
              (try rw [Addr.add_zero'] at hx355_2)
              replace p355 := eq_true p355
              replace q355 := eq_true q355
              go_wp2
              go_meet
              case rel => exact ⟨_, ((((rd_T33 t351 0).f2).toList != ([104, 111, 115, 116] : List UInt8))), (by first | with_reducible rfl | (simp only [pps, Nat.reduceAdd, Int.toNat_natCast]; done) | rfl | (simp; done) | (simp [*]; done)), H', ⟨by have := HJ2.out; have := HJ8.out; have := HK3.out; first | omega | exact Nat.le_refl _⟩, ⟨by (with_reducible repeat (first | apply Kd.R_alloc | apply Kd.R_drewN | apply Kd.R_drew)); exact HO353.out⟩, ⟨by repeat (first | (with_reducible first | exact HB.out | apply below_alloc | apply pw_below_drewN | apply below_drew1) | exact HB.out)⟩⟩
             ·
              rw [if_neg c54] at H
              have c54b0 : (((rd_T33 t351 0).f1).toList == ([98, 111, 120] : List UInt8)) = false := beq_eq_false_iff_ne.mpr c54
              have c54b1 : (((rd_T33 t351 0).f1).toList != ([98, 111, 120] : List UInt8)) = true := bne_iff_ne.mpr c54
              have H' := Aside0.mk H
              clear H
              obtain ⟨Ao56, co56, eo56⟩ := Kd.R_slice HO353.out
              subst eo56
              have p354 : 0 ≤ (0 : Int) := (by omega)
              have q354 : 0 < (t351.length : Int) := of_decide_eq_true (by first | (with_reducible assumption) | assumption)
              obtain ⟨ad354, e354, hx354_0, hx354_1, hx354_2⟩ := at_T33 (Kd.R_reads' HO353.out).2.2 0 p354 q354
              cases e354
              have qi354 : (0 < t351.length) = True := eq_true (by omega)
              (try rw [show ((0 : Int)).toNat = 0 from rfl] at hx354_0)
              (try rw [show 0 * 3 = 0 from rfl] at hx354_0)
              (try rw [Addr.add_zero'] at hx354_0)
              (try rw [show ((0 : Int)).toNat = 0 from rfl] at hx354_1)
              (try rw [show 0 * 3 = 0 from rfl] at hx354_1)
              (try rw [Addr.add_zero'] at hx354_1)
              (try rw [show ((0 : Int)).toNat = 0 from rfl] at hx354_2)
              (try rw [show 0 * 3 = 0 from rfl] at hx354_2)
              (try rw [Addr.add_zero'] at hx354_2)
              replace p354 := eq_true p354
              replace q354 := eq_true q354
              go_wp2
              go_meet
              case rel => exact ⟨_, (true), (by first | with_reducible rfl | (simp only [pps, Nat.reduceAdd, Int.toNat_natCast]; done) | rfl | (simp; done) | (simp [*]; done)), H', ⟨by have := HJ2.out; have := HJ8.out; have := HK3.out; first | omega | exact Nat.le_refl _⟩, ⟨by (with_reducible repeat (first | apply Kd.R_alloc | apply Kd.R_drewN | apply Kd.R_drew)); exact HO353.out⟩, ⟨by repeat (first | (with_reducible first | exact HB.out | apply below_alloc | apply pw_below_drewN | apply below_drew1) | exact HB.out)⟩⟩
            ·
             rw [if_neg c53] at H
             exact absurd H (by simp)
           ·
            rw [if_neg c52] at H
            have c52b0 : ((t351.length : Int) == 1) = false := beq_eq_false_iff_ne.mpr c52
            have c52b1 : ((t351.length : Int) != 1) = true := bne_iff_ne.mpr c52
            (first | rw [c52b0] | (simp only [i64_w, i32_w]; rw [c52b0]) | skip)
            have H' := Aside0.mk H
            clear H
            obtain ⟨Ao57, co57, eo57⟩ := Kd.R_slice HO353.out
            subst eo57
            go_wp2
            go_meet
            case rel => exact ⟨_, (true), (by first | with_reducible rfl | (simp only [pps, Nat.reduceAdd, Int.toNat_natCast]; done) | rfl | (simp; done) | (simp [*]; done)), H', ⟨by have := HJ2.out; have := HJ8.out; have := HK3.out; first | omega | exact Nat.le_refl _⟩, ⟨by (with_reducible repeat (first | apply Kd.R_alloc | apply Kd.R_drewN | apply Kd.R_drew)); exact HO353.out⟩, ⟨by repeat (first | (with_reducible first | exact HB.out | apply below_alloc | apply pw_below_drewN | apply below_drew1) | exact HB.out)⟩⟩
          case rest =>
           clear HC50
           try clear c1
           try clear p2
           try clear p3
           try clear q3
           try clear hx3
           try clear qi3
           try clear c4
           try clear c4b0
           try clear c4b1
           try clear c5
           try clear c6
           try clear p6
           try clear c10
           try clear c12
           try clear c14
           try clear c15
           try clear c15b0
           try clear c15b1
           try clear c15b2
           try clear c16
           try clear c16b0
           try clear c16b1
           try clear c16b2
           try clear c17
           try clear c19
           try clear p35
           try clear q35
           try clear hx35
           try clear qi35
           try clear c42
           try clear c42b0
           try clear c43
           try clear c43b0
           try clear c43b1
           try clear c43b2
           try clear c44
           try clear c44b0
           try clear c44b1
           try clear c45
           try clear c45b0
           try clear c45b1
           try clear c46
           try clear c46b0
           try clear c46b1
           try clear c47
           try clear c47b0
           try clear c47b1
           try clear c47b2
           try clear c48
           try clear c48b0
           try clear c48b1
           try clear c48b2
           try clear c52
           try clear c52b0
           try clear c52b1
           try clear c53
           try clear c53b0
           try clear c53b1
           try clear c54
           try clear c54b0
           try clear c54b1
           try clear hx354_0
           try clear hx354_1
           try clear hx354_2
           try clear hx355_0
           try clear hx355_1
           try clear hx355_2
           try clear p2
           try clear p354
           try clear p355
           try clear q354
           try clear q355
           obtain ⟨kq, x69_49, rfl, HA, HJ49, HO_8, HB⟩ := hcut
           cases kq with
           | zero => exact absurd HA.out (by simp [haversacklaw10_HeaderPeople.j3])
           | succ kj49 =>
            have H := HA.out
            clear HA
            simp only [haversacklaw10_HeaderPeople.j3] at H
            by_cases c58 : x69_49 = true
            ·
             subst c58
             have H1 : (some false) = some r := by rw [if_pos rfl] at H; exact H
             clear H
             have H := H1
             clear H1
             obtain rfl := Option.some.inj H
             go_wp2
             go_ret
             exact ⟨by first | rfl | (simp [errW_none, errW_some] <;> rfl) | (simp [*, errW_none, errW_some] <;> rfl), by repeat (first | (with_reducible first | exact HB.out | apply below_alloc | apply pw_below_drewN | apply below_drew1) | exact HB.out)⟩
            ·
             replace c58 := Bool.eq_false_iff.mpr c58
             subst c58
             have H1 : (if 0 < (t351.length : Int) then (haversacklaw10_HeaderPeople.l1 kj49 a0 ((rd_T33 t351 0).f0)) else (none)) = some r := by rw [if_neg (show ¬ (false = true) by decide)] at H; exact H
             clear H
             have H := H1
             clear H1
             by_cases c59 : 0 < (t351.length : Int)
             ·
              rw [if_pos c59] at H
              have c59b0 : decide (0 < (t351.length : Int)) = true := decide_eq_true c59
              have c59b1 : decide (0 < t351.length) = true := decide_eq_true (by omega)
              clear c59
              have H' := Aside0.mk H
              clear H
              obtain ⟨Ao60, co60, eo60⟩ := Kd.R_slice HO_8.out
              subst eo60
              have p356 : 0 ≤ (0 : Int) := (by omega)
              have q356 : 0 < (t351.length : Int) := of_decide_eq_true (by first | (with_reducible assumption) | assumption)
              obtain ⟨ad356, e356, hx356_0, hx356_1, hx356_2⟩ := at_T33 (Kd.R_reads' HO_8.out).2.2 0 p356 q356
              cases e356
              have qi356 : (0 < t351.length) = True := eq_true (by omega)
              (try rw [show ((0 : Int)).toNat = 0 from rfl] at hx356_0)
              (try rw [show 0 * 3 = 0 from rfl] at hx356_0)
              (try rw [Addr.add_zero'] at hx356_0)
              (try rw [show ((0 : Int)).toNat = 0 from rfl] at hx356_1)
              (try rw [show 0 * 3 = 0 from rfl] at hx356_1)
              (try rw [Addr.add_zero'] at hx356_1)
              (try rw [show ((0 : Int)).toNat = 0 from rfl] at hx356_2)
              (try rw [show 0 * 3 = 0 from rfl] at hx356_2)
              (try rw [Addr.add_zero'] at hx356_2)
              replace p356 := eq_true p356
              replace q356 := eq_true q356
              go_wp2
              go_loopg [0] kj49 (fun kq v0 w' => ∃ (x0_5 : ByteArray), v0 = .string x0_5 ∧ Aside0 (haversacklaw10_HeaderPeople.l1 kq x0_5 ((rd_T33 t351 0).f0) = some r) ∧ Aside0 (kq ≤ kj49) ∧ Aside0 (Below w.heap.size w w'))
              case atStart => exact ⟨(a0), (by first | with_reducible rfl | (simp only [pps, Nat.reduceAdd, Int.toNat_natCast]; done) | rfl | (simp; done) | (simp [*]; done)), H', ⟨Nat.le_refl _⟩, ⟨by repeat (first | (with_reducible first | exact HB.out | apply below_alloc | apply pw_below_drewN | apply below_drew1) | exact HB.out)⟩⟩
              case round =>
               clear H'
               try clear c1
               try clear p2
               try clear p3
               try clear q3
               try clear hx3
               try clear qi3
               try clear c4
               try clear c4b0
               try clear c4b1
               try clear c5
               try clear c6
               try clear p6
               try clear c10
               try clear c12
               try clear c14
               try clear c15
               try clear c15b0
               try clear c15b1
               try clear c15b2
               try clear c16
               try clear c16b0
               try clear c16b1
               try clear c16b2
               try clear c17
               try clear c19
               try clear p35
               try clear q35
               try clear hx35
               try clear qi35
               try clear c42
               try clear c42b0
               try clear c43
               try clear c43b0
               try clear c43b1
               try clear c43b2
               try clear c44
               try clear c44b0
               try clear c44b1
               try clear c45
               try clear c45b0
               try clear c45b1
               try clear c46
               try clear c46b0
               try clear c46b1
               try clear c47
               try clear c47b0
               try clear c47b1
               try clear c47b2
               try clear c48
               try clear c48b0
               try clear c48b1
               try clear c48b2
               try clear c52
               try clear c52b0
               try clear c52b1
               try clear c53
               try clear c53b0
               try clear c53b1
               try clear c54
               try clear c54b0
               try clear c54b1
               try clear c58
               try clear c59
               try clear c59b0
               try clear c59b1
               try clear hx354_0
               try clear hx354_1
               try clear hx354_2
               try clear hx355_0
               try clear hx355_1
               try clear hx355_2
               try clear hx356_0
               try clear hx356_1
               try clear hx356_2
               try clear p2
               try clear p3
               try clear p35
               try clear p354
               try clear p355
               try clear p356
               try clear p6
               try clear q3
               try clear q35
               try clear q354
               try clear q355
               try clear q356
               obtain ⟨x0_5, rfl, HA, HK5, HB⟩ := hrel
               cases gk with
               | zero => exact absurd HA.out (by simp [haversacklaw10_HeaderPeople.l1])
               | succ k5 =>
                have H := HA.out
                clear HA
                simp only [haversacklaw10_HeaderPeople.l1] at H
                by_cases c61 : (x0_5.size : Int) > 0
                ·
                 rw [if_pos c61] at H
                 have c61b0 : decide (0 < (x0_5.size : Int)) = true := decide_eq_true c61
                 have c61b1 : decide (0 < x0_5.size) = true := decide_eq_true (by omega)
                 clear c61
                 by_cases c62 : 0 < (x0_5.size : Int)
                 ·
                  rw [if_pos c62] at H
                  have c62b0 : decide (0 < (x0_5.size : Int)) = true := decide_eq_true c62
                  have c62b1 : decide (0 < x0_5.size) = true := decide_eq_true (by omega)
                  clear c62
                  by_cases c64 : (bt x0_5 0) = 32
                  ·
                   rw [if_pos c64] at H
                   have c64b0 : ((bt x0_5 0) == 32) = true := beq_iff_eq.mpr c64
                   have c64b1 : ((bt x0_5 0) != 32) = false := bne_eq_false_iff_eq.mpr c64
                   clear c64
                   by_cases c65 : 1 ≤ (x0_5.size : Int)
                   ·
                    rw [if_pos c65] at H
                    have c65b0 := eq_true c65
                    have c65b1 : decide (1 ≤ (x0_5.size : Int)) = true := decide_eq_true c65
                    clear c65
                    have H' := Aside0.mk H
                    clear H
                    have p63 : 0 ≤ (0 : Int) := (by omega)
                    have q63 : 0 < x0_5.size := (by have : (0 : Int) < (x0_5.size : Int) := of_decide_eq_true (by first | (with_reducible assumption) | assumption); omega)
                    have hx63 : ∀ h : 0 < x0_5.size, ((x0_5[0]'h).toNat : Int) = bt x0_5 0 := bt_at x0_5 0
                    clear p63
                    have qi63 : (0 < (x0_5.size : Int)) = True := eq_true (of_decide_eq_true (by first | (with_reducible assumption) | assumption))
                    replace q63 := eq_true q63
                    go_wp2
                    go_roundg k5
                    case measure => have := HJ2.out; have := HJ8.out; have := HK3.out; have := HJ49.out; have := HK5.out; omega
                    case rel => exact ⟨(x0_5.extract 1 x0_5.size), (by first | with_reducible rfl | (simp only [pps, Nat.reduceAdd, Int.toNat_natCast]; done) | rfl | (simp; done) | (simp [*]; done)), H', ⟨by have := HJ2.out; have := HJ8.out; have := HK3.out; have := HJ49.out; have := HK5.out; omega⟩, ⟨by repeat (first | (with_reducible first | exact HB.out | apply below_alloc | apply pw_below_drewN | apply below_drew1) | exact HB.out)⟩⟩
                   ·
                    rw [if_neg c65] at H
                    exact absurd H (by simp)
                  ·
                   rw [if_neg c64] at H
                   have c64b0 : ((bt x0_5 0) == 32) = false := beq_eq_false_iff_ne.mpr c64
                   have c64b1 : ((bt x0_5 0) != 32) = true := bne_iff_ne.mpr c64
                   by_cases c67 : (bt x0_5 0) = 9
                   ·
                    rw [if_pos c67] at H
                    have c67b0 : ((bt x0_5 0) == 9) = true := beq_iff_eq.mpr c67
                    have c67b1 : ((bt x0_5 0) != 9) = false := bne_eq_false_iff_eq.mpr c67
                    clear c67
                    by_cases c68 : 1 ≤ (x0_5.size : Int)
                    ·
                     rw [if_pos c68] at H
                     have c68b0 := eq_true c68
                     have c68b1 : decide (1 ≤ (x0_5.size : Int)) = true := decide_eq_true c68
                     clear c68
                     have H' := Aside0.mk H
                     clear H
                     have p63 : 0 ≤ (0 : Int) := (by omega)
                     have q63 : 0 < x0_5.size := (by have : (0 : Int) < (x0_5.size : Int) := of_decide_eq_true (by first | (with_reducible assumption) | assumption); omega)
                     have hx63 : ∀ h : 0 < x0_5.size, ((x0_5[0]'h).toNat : Int) = bt x0_5 0 := bt_at x0_5 0
                     clear p63
                     have qi63 : (0 < (x0_5.size : Int)) = True := eq_true (of_decide_eq_true (by first | (with_reducible assumption) | assumption))
                     replace q63 := eq_true q63
                     have p66 : 0 ≤ (0 : Int) := (by omega)
                     have q66 : 0 < x0_5.size := (by have : (0 : Int) < (x0_5.size : Int) := of_decide_eq_true (by first | (with_reducible assumption) | assumption); omega)
                     have hx66 : ∀ h : 0 < x0_5.size, ((x0_5[0]'h).toNat : Int) = bt x0_5 0 := bt_at x0_5 0
                     clear p66
                     have qi66 : (0 < (x0_5.size : Int)) = True := eq_true (of_decide_eq_true (by first | (with_reducible assumption) | assumption))
                     replace q66 := eq_true q66
                     go_wp2
                     go_roundg k5
                     case measure => have := HJ2.out; have := HJ8.out; have := HK3.out; have := HJ49.out; have := HK5.out; omega
                     case rel => exact ⟨(x0_5.extract 1 x0_5.size), (by first | with_reducible rfl | (simp only [pps, Nat.reduceAdd, Int.toNat_natCast]; done) | rfl | (simp; done) | (simp [*]; done)), H', ⟨by have := HJ2.out; have := HJ8.out; have := HK3.out; have := HJ49.out; have := HK5.out; omega⟩, ⟨by repeat (first | (with_reducible first | exact HB.out | apply below_alloc | apply pw_below_drewN | apply below_drew1) | exact HB.out)⟩⟩
                    ·
                     rw [if_neg c68] at H
                     exact absurd H (by simp)
                   ·
                    rw [if_neg c67] at H
                    have c67b0 : ((bt x0_5 0) == 9) = false := beq_eq_false_iff_ne.mpr c67
                    have c67b1 : ((bt x0_5 0) != 9) = true := bne_iff_ne.mpr c67
                    by_cases c70 : (bt x0_5 0) = 13
                    ·
                     rw [if_pos c70] at H
                     have c70b0 : ((bt x0_5 0) == 13) = true := beq_iff_eq.mpr c70
                     have c70b1 : ((bt x0_5 0) != 13) = false := bne_eq_false_iff_eq.mpr c70
                     clear c70
                     by_cases c71 : 1 ≤ (x0_5.size : Int)
                     ·
                      rw [if_pos c71] at H
                      have c71b0 := eq_true c71
                      have c71b1 : decide (1 ≤ (x0_5.size : Int)) = true := decide_eq_true c71
                      clear c71
                      have H' := Aside0.mk H
                      clear H
                      have p63 : 0 ≤ (0 : Int) := (by omega)
                      have q63 : 0 < x0_5.size := (by have : (0 : Int) < (x0_5.size : Int) := of_decide_eq_true (by first | (with_reducible assumption) | assumption); omega)
                      have hx63 : ∀ h : 0 < x0_5.size, ((x0_5[0]'h).toNat : Int) = bt x0_5 0 := bt_at x0_5 0
                      clear p63
                      have qi63 : (0 < (x0_5.size : Int)) = True := eq_true (of_decide_eq_true (by first | (with_reducible assumption) | assumption))
                      replace q63 := eq_true q63
                      have p66 : 0 ≤ (0 : Int) := (by omega)
                      have q66 : 0 < x0_5.size := (by have : (0 : Int) < (x0_5.size : Int) := of_decide_eq_true (by first | (with_reducible assumption) | assumption); omega)
                      have hx66 : ∀ h : 0 < x0_5.size, ((x0_5[0]'h).toNat : Int) = bt x0_5 0 := bt_at x0_5 0
                      clear p66
                      have qi66 : (0 < (x0_5.size : Int)) = True := eq_true (of_decide_eq_true (by first | (with_reducible assumption) | assumption))
                      replace q66 := eq_true q66
                      have p69 : 0 ≤ (0 : Int) := (by omega)
                      have q69 : 0 < x0_5.size := (by have : (0 : Int) < (x0_5.size : Int) := of_decide_eq_true (by first | (with_reducible assumption) | assumption); omega)
                      have hx69 : ∀ h : 0 < x0_5.size, ((x0_5[0]'h).toNat : Int) = bt x0_5 0 := bt_at x0_5 0
                      clear p69
                      have qi69 : (0 < (x0_5.size : Int)) = True := eq_true (of_decide_eq_true (by first | (with_reducible assumption) | assumption))
                      replace q69 := eq_true q69
                      go_wp2
                      go_roundg k5
                      case measure => have := HJ2.out; have := HJ8.out; have := HK3.out; have := HJ49.out; have := HK5.out; omega
                      case rel => exact ⟨(x0_5.extract 1 x0_5.size), (by first | with_reducible rfl | (simp only [pps, Nat.reduceAdd, Int.toNat_natCast]; done) | rfl | (simp; done) | (simp [*]; done)), H', ⟨by have := HJ2.out; have := HJ8.out; have := HK3.out; have := HJ49.out; have := HK5.out; omega⟩, ⟨by repeat (first | (with_reducible first | exact HB.out | apply below_alloc | apply pw_below_drewN | apply below_drew1) | exact HB.out)⟩⟩
                     ·
                      rw [if_neg c71] at H
                      exact absurd H (by simp)
                    ·
                     rw [if_neg c70] at H
                     have c70b0 : ((bt x0_5 0) == 13) = false := beq_eq_false_iff_ne.mpr c70
                     have c70b1 : ((bt x0_5 0) != 13) = true := bne_iff_ne.mpr c70
                     by_cases c73 : (bt x0_5 0) = 10
                     ·
                      rw [if_pos c73] at H
                      have c73b0 : ((bt x0_5 0) == 10) = true := beq_iff_eq.mpr c73
                      have c73b1 : ((bt x0_5 0) != 10) = false := bne_eq_false_iff_eq.mpr c73
                      clear c73
                      by_cases c74 : 1 ≤ (x0_5.size : Int)
                      ·
                       rw [if_pos c74] at H
                       have c74b0 := eq_true c74
                       have c74b1 : decide (1 ≤ (x0_5.size : Int)) = true := decide_eq_true c74
                       clear c74
                       have H' := Aside0.mk H
                       clear H
                       have p63 : 0 ≤ (0 : Int) := (by omega)
                       have q63 : 0 < x0_5.size := (by have : (0 : Int) < (x0_5.size : Int) := of_decide_eq_true (by first | (with_reducible assumption) | assumption); omega)
                       have hx63 : ∀ h : 0 < x0_5.size, ((x0_5[0]'h).toNat : Int) = bt x0_5 0 := bt_at x0_5 0
                       clear p63
                       have qi63 : (0 < (x0_5.size : Int)) = True := eq_true (of_decide_eq_true (by first | (with_reducible assumption) | assumption))
                       replace q63 := eq_true q63
                       have p66 : 0 ≤ (0 : Int) := (by omega)
                       have q66 : 0 < x0_5.size := (by have : (0 : Int) < (x0_5.size : Int) := of_decide_eq_true (by first | (with_reducible assumption) | assumption); omega)
                       have hx66 : ∀ h : 0 < x0_5.size, ((x0_5[0]'h).toNat : Int) = bt x0_5 0 := bt_at x0_5 0
                       clear p66
                       have qi66 : (0 < (x0_5.size : Int)) = True := eq_true (of_decide_eq_true (by first | (with_reducible assumption) | assumption))
                       replace q66 := eq_true q66
                       have p69 : 0 ≤ (0 : Int) := (by omega)
                       have q69 : 0 < x0_5.size := (by have : (0 : Int) < (x0_5.size : Int) := of_decide_eq_true (by first | (with_reducible assumption) | assumption); omega)
                       have hx69 : ∀ h : 0 < x0_5.size, ((x0_5[0]'h).toNat : Int) = bt x0_5 0 := bt_at x0_5 0
                       clear p69
                       have qi69 : (0 < (x0_5.size : Int)) = True := eq_true (of_decide_eq_true (by first | (with_reducible assumption) | assumption))
                       replace q69 := eq_true q69
                       have p72 : 0 ≤ (0 : Int) := (by omega)
                       have q72 : 0 < x0_5.size := (by have : (0 : Int) < (x0_5.size : Int) := of_decide_eq_true (by first | (with_reducible assumption) | assumption); omega)
                       have hx72 : ∀ h : 0 < x0_5.size, ((x0_5[0]'h).toNat : Int) = bt x0_5 0 := bt_at x0_5 0
                       clear p72
                       have qi72 : (0 < (x0_5.size : Int)) = True := eq_true (of_decide_eq_true (by first | (with_reducible assumption) | assumption))
                       replace q72 := eq_true q72
                       go_wp2
                       go_roundg k5
                       case measure => have := HJ2.out; have := HJ8.out; have := HK3.out; have := HJ49.out; have := HK5.out; omega
                       case rel => exact ⟨(x0_5.extract 1 x0_5.size), (by first | with_reducible rfl | (simp only [pps, Nat.reduceAdd, Int.toNat_natCast]; done) | rfl | (simp; done) | (simp [*]; done)), H', ⟨by have := HJ2.out; have := HJ8.out; have := HK3.out; have := HJ49.out; have := HK5.out; omega⟩, ⟨by repeat (first | (with_reducible first | exact HB.out | apply below_alloc | apply pw_below_drewN | apply below_drew1) | exact HB.out)⟩⟩
                      ·
                       rw [if_neg c74] at H
                       exact absurd H (by simp)
                     ·
                      rw [if_neg c73] at H
                      have c73b0 : ((bt x0_5 0) == 10) = false := beq_eq_false_iff_ne.mpr c73
                      have c73b1 : ((bt x0_5 0) != 10) = true := bne_iff_ne.mpr c73
                      by_cases c75 : (((rd_T33 t351 0).f0).size : Int) ≤ (x0_5.size : Int)
                      ·
                       rw [if_pos c75] at H
                       have c75b0 : decide ((((rd_T33 t351 0).f0).size : Int) ≤ (x0_5.size : Int)) = true := decide_eq_true c75
                       have c75b1 : decide (((rd_T33 t351 0).f0).size ≤ x0_5.size) = true := decide_eq_true (Int.ofNat_le.mp c75)
                       clear c75
                       by_cases c76 : 0 ≤ (((rd_T33 t351 0).f0).size : Int)
                       ·
                        rw [if_pos c76] at H
                        have c76b0 := eq_true c76
                        have c76b1 : decide (0 ≤ (((rd_T33 t351 0).f0).size : Int)) = true := decide_eq_true c76
                        clear c76
                        have c77b0 := eq_true (of_decide_eq_true (by first | (with_reducible assumption) | assumption) : (((rd_T33 t351 0).f0).size : Int) ≤ (x0_5.size : Int))
                        by_cases c78 : (x0_5.extract 0 ((((rd_T33 t351 0).f0).size : Int) : Int).toNat).toList = ((rd_T33 t351 0).f0).toList
                        ·
                         rw [if_pos c78] at H
                         have c78b0 : ((x0_5.extract 0 ((((rd_T33 t351 0).f0).size : Int) : Int).toNat).toList == ((rd_T33 t351 0).f0).toList) = true := beq_iff_eq.mpr c78
                         try (have c78b0s := c78b0; simp only [pps, Nat.reduceAdd, Int.toNat_natCast] at c78b0s; first | have c78b0t := eq_true (of_decide_eq_true c78b0s) | have c78b0t := eq_false (of_decide_eq_false c78b0s) | skip)
                         have c78b1 : ((x0_5.extract 0 ((((rd_T33 t351 0).f0).size : Int) : Int).toNat).toList != ((rd_T33 t351 0).f0).toList) = false := bne_eq_false_iff_eq.mpr c78
                         try (have c78b1s := c78b1; simp only [pps, Nat.reduceAdd, Int.toNat_natCast] at c78b1s; first | have c78b1t := eq_true (of_decide_eq_true c78b1s) | have c78b1t := eq_false (of_decide_eq_false c78b1s) | skip)
                         clear c78
                         replace H := Option.bind_eq_some_iff.mp H
                         obtain ⟨t357, A790, H⟩ := H
                         replace H : (some t357) = some r := H
                         have A79 := Aside0.mk A790
                         clear A790
                         obtain rfl := Option.some.inj H
                         have p63 : 0 ≤ (0 : Int) := (by omega)
                         have q63 : 0 < x0_5.size := (by have : (0 : Int) < (x0_5.size : Int) := of_decide_eq_true (by first | (with_reducible assumption) | assumption); omega)
                         have hx63 : ∀ h : 0 < x0_5.size, ((x0_5[0]'h).toNat : Int) = bt x0_5 0 := bt_at x0_5 0
                         clear p63
                         have qi63 : (0 < (x0_5.size : Int)) = True := eq_true (of_decide_eq_true (by first | (with_reducible assumption) | assumption))
                         replace q63 := eq_true q63
                         have p66 : 0 ≤ (0 : Int) := (by omega)
                         have q66 : 0 < x0_5.size := (by have : (0 : Int) < (x0_5.size : Int) := of_decide_eq_true (by first | (with_reducible assumption) | assumption); omega)
                         have hx66 : ∀ h : 0 < x0_5.size, ((x0_5[0]'h).toNat : Int) = bt x0_5 0 := bt_at x0_5 0
                         clear p66
                         have qi66 : (0 < (x0_5.size : Int)) = True := eq_true (of_decide_eq_true (by first | (with_reducible assumption) | assumption))
                         replace q66 := eq_true q66
                         have p69 : 0 ≤ (0 : Int) := (by omega)
                         have q69 : 0 < x0_5.size := (by have : (0 : Int) < (x0_5.size : Int) := of_decide_eq_true (by first | (with_reducible assumption) | assumption); omega)
                         have hx69 : ∀ h : 0 < x0_5.size, ((x0_5[0]'h).toNat : Int) = bt x0_5 0 := bt_at x0_5 0
                         clear p69
                         have qi69 : (0 < (x0_5.size : Int)) = True := eq_true (of_decide_eq_true (by first | (with_reducible assumption) | assumption))
                         replace q69 := eq_true q69
                         have p72 : 0 ≤ (0 : Int) := (by omega)
                         have q72 : 0 < x0_5.size := (by have : (0 : Int) < (x0_5.size : Int) := of_decide_eq_true (by first | (with_reducible assumption) | assumption); omega)
                         have hx72 : ∀ h : 0 < x0_5.size, ((x0_5[0]'h).toNat : Int) = bt x0_5 0 := bt_at x0_5 0
                         clear p72
                         have qi72 : (0 < (x0_5.size : Int)) = True := eq_true (of_decide_eq_true (by first | (with_reducible assumption) | assumption))
                         replace q72 := eq_true q72
                         go_wp2_with (first | (go_at_call 10; (with_reducible refine (haversacklaw10_alive.calls k5  t357 _ A79.out).mono ?_); rintro e w80 ⟨rfl, hb⟩; have n0_ := Aside0.mk (below_step (by repeat (first | (with_reducible first | exact HB.out | apply below_alloc | apply pw_below_drewN | apply below_drew1) | exact HB.out)) hb); clear HB; have HB := n0_; clear n0_; (try clear hb); (try clear hb2); (try clear hk); (try clear hi)))
                         go_ret
                         exact ⟨by first | rfl | (simp [errW_none, errW_some] <;> rfl) | (simp [*, errW_none, errW_some] <;> rfl), by repeat (first | (with_reducible first | exact HB.out | apply below_alloc | apply pw_below_drewN | apply below_drew1) | exact HB.out)⟩
                        ·
                         rw [if_neg c78] at H
                         have c78b0 : ((x0_5.extract 0 ((((rd_T33 t351 0).f0).size : Int) : Int).toNat).toList == ((rd_T33 t351 0).f0).toList) = false := beq_eq_false_iff_ne.mpr c78
                         try (have c78b0s := c78b0; simp only [pps, Nat.reduceAdd, Int.toNat_natCast] at c78b0s; first | have c78b0t := eq_true (of_decide_eq_true c78b0s) | have c78b0t := eq_false (of_decide_eq_false c78b0s) | skip)
                         have c78b1 : ((x0_5.extract 0 ((((rd_T33 t351 0).f0).size : Int) : Int).toNat).toList != ((rd_T33 t351 0).f0).toList) = true := bne_iff_ne.mpr c78
                         try (have c78b1s := c78b1; simp only [pps, Nat.reduceAdd, Int.toNat_natCast] at c78b1s; first | have c78b1t := eq_true (of_decide_eq_true c78b1s) | have c78b1t := eq_false (of_decide_eq_false c78b1s) | skip)
                         obtain rfl := Option.some.inj H
                         have p63 : 0 ≤ (0 : Int) := (by omega)
                         have q63 : 0 < x0_5.size := (by have : (0 : Int) < (x0_5.size : Int) := of_decide_eq_true (by first | (with_reducible assumption) | assumption); omega)
                         have hx63 : ∀ h : 0 < x0_5.size, ((x0_5[0]'h).toNat : Int) = bt x0_5 0 := bt_at x0_5 0
                         clear p63
                         have qi63 : (0 < (x0_5.size : Int)) = True := eq_true (of_decide_eq_true (by first | (with_reducible assumption) | assumption))
                         replace q63 := eq_true q63
                         have p66 : 0 ≤ (0 : Int) := (by omega)
                         have q66 : 0 < x0_5.size := (by have : (0 : Int) < (x0_5.size : Int) := of_decide_eq_true (by first | (with_reducible assumption) | assumption); omega)
                         have hx66 : ∀ h : 0 < x0_5.size, ((x0_5[0]'h).toNat : Int) = bt x0_5 0 := bt_at x0_5 0
                         clear p66
                         have qi66 : (0 < (x0_5.size : Int)) = True := eq_true (of_decide_eq_true (by first | (with_reducible assumption) | assumption))
                         replace q66 := eq_true q66
                         have p69 : 0 ≤ (0 : Int) := (by omega)
                         have q69 : 0 < x0_5.size := (by have : (0 : Int) < (x0_5.size : Int) := of_decide_eq_true (by first | (with_reducible assumption) | assumption); omega)
                         have hx69 : ∀ h : 0 < x0_5.size, ((x0_5[0]'h).toNat : Int) = bt x0_5 0 := bt_at x0_5 0
                         clear p69
                         have qi69 : (0 < (x0_5.size : Int)) = True := eq_true (of_decide_eq_true (by first | (with_reducible assumption) | assumption))
                         replace q69 := eq_true q69
                         have p72 : 0 ≤ (0 : Int) := (by omega)
                         have q72 : 0 < x0_5.size := (by have : (0 : Int) < (x0_5.size : Int) := of_decide_eq_true (by first | (with_reducible assumption) | assumption); omega)
                         have hx72 : ∀ h : 0 < x0_5.size, ((x0_5[0]'h).toNat : Int) = bt x0_5 0 := bt_at x0_5 0
                         clear p72
                         have qi72 : (0 < (x0_5.size : Int)) = True := eq_true (of_decide_eq_true (by first | (with_reducible assumption) | assumption))
                         replace q72 := eq_true q72
                         go_wp2
                         go_ret
                         exact ⟨by first | rfl | (simp [errW_none, errW_some] <;> rfl) | (simp [*, errW_none, errW_some] <;> rfl), by repeat (first | (with_reducible first | exact HB.out | apply below_alloc | apply pw_below_drewN | apply below_drew1) | exact HB.out)⟩
                       ·
                        rw [if_neg c76] at H
                        exact absurd H (by simp)
                      ·
                       rw [if_neg c75] at H
                       have c75b0 : decide ((((rd_T33 t351 0).f0).size : Int) ≤ (x0_5.size : Int)) = false := decide_eq_false c75
                       have c75b1 : decide (((rd_T33 t351 0).f0).size ≤ x0_5.size) = false := decide_eq_false (fun h => c75 (Int.ofNat_le.mpr h))
                       clear c75
                       obtain rfl := Option.some.inj H
                       have p63 : 0 ≤ (0 : Int) := (by omega)
                       have q63 : 0 < x0_5.size := (by have : (0 : Int) < (x0_5.size : Int) := of_decide_eq_true (by first | (with_reducible assumption) | assumption); omega)
                       have hx63 : ∀ h : 0 < x0_5.size, ((x0_5[0]'h).toNat : Int) = bt x0_5 0 := bt_at x0_5 0
                       clear p63
                       have qi63 : (0 < (x0_5.size : Int)) = True := eq_true (of_decide_eq_true (by first | (with_reducible assumption) | assumption))
                       replace q63 := eq_true q63
                       have p66 : 0 ≤ (0 : Int) := (by omega)
                       have q66 : 0 < x0_5.size := (by have : (0 : Int) < (x0_5.size : Int) := of_decide_eq_true (by first | (with_reducible assumption) | assumption); omega)
                       have hx66 : ∀ h : 0 < x0_5.size, ((x0_5[0]'h).toNat : Int) = bt x0_5 0 := bt_at x0_5 0
                       clear p66
                       have qi66 : (0 < (x0_5.size : Int)) = True := eq_true (of_decide_eq_true (by first | (with_reducible assumption) | assumption))
                       replace q66 := eq_true q66
                       have p69 : 0 ≤ (0 : Int) := (by omega)
                       have q69 : 0 < x0_5.size := (by have : (0 : Int) < (x0_5.size : Int) := of_decide_eq_true (by first | (with_reducible assumption) | assumption); omega)
                       have hx69 : ∀ h : 0 < x0_5.size, ((x0_5[0]'h).toNat : Int) = bt x0_5 0 := bt_at x0_5 0
                       clear p69
                       have qi69 : (0 < (x0_5.size : Int)) = True := eq_true (of_decide_eq_true (by first | (with_reducible assumption) | assumption))
                       replace q69 := eq_true q69
                       have p72 : 0 ≤ (0 : Int) := (by omega)
                       have q72 : 0 < x0_5.size := (by have : (0 : Int) < (x0_5.size : Int) := of_decide_eq_true (by first | (with_reducible assumption) | assumption); omega)
                       have hx72 : ∀ h : 0 < x0_5.size, ((x0_5[0]'h).toNat : Int) = bt x0_5 0 := bt_at x0_5 0
                       clear p72
                       have qi72 : (0 < (x0_5.size : Int)) = True := eq_true (of_decide_eq_true (by first | (with_reducible assumption) | assumption))
                       replace q72 := eq_true q72
                       go_wp2
                       go_ret
                       exact ⟨by first | rfl | (simp [errW_none, errW_some] <;> rfl) | (simp [*, errW_none, errW_some] <;> rfl), by repeat (first | (with_reducible first | exact HB.out | apply below_alloc | apply pw_below_drewN | apply below_drew1) | exact HB.out)⟩
                 ·
                  rw [if_neg c62] at H
                  exact absurd H (by simp)
                ·
                 rw [if_neg c61] at H
                 have c61b0 : decide (0 < (x0_5.size : Int)) = false := decide_eq_false c61
                 have c61b1 : decide (0 < x0_5.size) = false := decide_eq_false (by omega)
                 clear c61
                 by_cases c81 : (((rd_T33 t351 0).f0).size : Int) ≤ (x0_5.size : Int)
                 ·
                  rw [if_pos c81] at H
                  have c81b0 : decide ((((rd_T33 t351 0).f0).size : Int) ≤ (x0_5.size : Int)) = true := decide_eq_true c81
                  have c81b1 : decide (((rd_T33 t351 0).f0).size ≤ x0_5.size) = true := decide_eq_true (Int.ofNat_le.mp c81)
                  clear c81
                  by_cases c82 : 0 ≤ (((rd_T33 t351 0).f0).size : Int)
                  ·
                   rw [if_pos c82] at H
                   have c82b0 := eq_true c82
                   have c82b1 : decide (0 ≤ (((rd_T33 t351 0).f0).size : Int)) = true := decide_eq_true c82
                   clear c82
                   have c83b0 := eq_true (of_decide_eq_true (by first | (with_reducible assumption) | assumption) : (((rd_T33 t351 0).f0).size : Int) ≤ (x0_5.size : Int))
                   by_cases c84 : (x0_5.extract 0 ((((rd_T33 t351 0).f0).size : Int) : Int).toNat).toList = ((rd_T33 t351 0).f0).toList
                   ·
                    rw [if_pos c84] at H
                    have c84b0 : ((x0_5.extract 0 ((((rd_T33 t351 0).f0).size : Int) : Int).toNat).toList == ((rd_T33 t351 0).f0).toList) = true := beq_iff_eq.mpr c84
                    try (have c84b0s := c84b0; simp only [pps, Nat.reduceAdd, Int.toNat_natCast] at c84b0s; first | have c84b0t := eq_true (of_decide_eq_true c84b0s) | have c84b0t := eq_false (of_decide_eq_false c84b0s) | skip)
                    have c84b1 : ((x0_5.extract 0 ((((rd_T33 t351 0).f0).size : Int) : Int).toNat).toList != ((rd_T33 t351 0).f0).toList) = false := bne_eq_false_iff_eq.mpr c84
                    try (have c84b1s := c84b1; simp only [pps, Nat.reduceAdd, Int.toNat_natCast] at c84b1s; first | have c84b1t := eq_true (of_decide_eq_true c84b1s) | have c84b1t := eq_false (of_decide_eq_false c84b1s) | skip)
                    clear c84
                    replace H := Option.bind_eq_some_iff.mp H
                    obtain ⟨t358, A850, H⟩ := H
                    replace H : (some t358) = some r := H
                    have A85 := Aside0.mk A850
                    clear A850
                    obtain rfl := Option.some.inj H
                    go_wp2_with (first | (go_at_call 10; (with_reducible refine (haversacklaw10_alive.calls k5  t358 _ A85.out).mono ?_); rintro e w86 ⟨rfl, hb⟩; have n0_ := Aside0.mk (below_step (by repeat (first | (with_reducible first | exact HB.out | apply below_alloc | apply pw_below_drewN | apply below_drew1) | exact HB.out)) hb); clear HB; have HB := n0_; clear n0_; (try clear hb); (try clear hb2); (try clear hk); (try clear hi)))
                    go_ret
                    exact ⟨by first | rfl | (simp [errW_none, errW_some] <;> rfl) | (simp [*, errW_none, errW_some] <;> rfl), by repeat (first | (with_reducible first | exact HB.out | apply below_alloc | apply pw_below_drewN | apply below_drew1) | exact HB.out)⟩
                   ·
                    rw [if_neg c84] at H
                    have c84b0 : ((x0_5.extract 0 ((((rd_T33 t351 0).f0).size : Int) : Int).toNat).toList == ((rd_T33 t351 0).f0).toList) = false := beq_eq_false_iff_ne.mpr c84
                    try (have c84b0s := c84b0; simp only [pps, Nat.reduceAdd, Int.toNat_natCast] at c84b0s; first | have c84b0t := eq_true (of_decide_eq_true c84b0s) | have c84b0t := eq_false (of_decide_eq_false c84b0s) | skip)
                    have c84b1 : ((x0_5.extract 0 ((((rd_T33 t351 0).f0).size : Int) : Int).toNat).toList != ((rd_T33 t351 0).f0).toList) = true := bne_iff_ne.mpr c84
                    try (have c84b1s := c84b1; simp only [pps, Nat.reduceAdd, Int.toNat_natCast] at c84b1s; first | have c84b1t := eq_true (of_decide_eq_true c84b1s) | have c84b1t := eq_false (of_decide_eq_false c84b1s) | skip)
                    obtain rfl := Option.some.inj H
                    go_wp2
                    go_ret
                    exact ⟨by first | rfl | (simp [errW_none, errW_some] <;> rfl) | (simp [*, errW_none, errW_some] <;> rfl), by repeat (first | (with_reducible first | exact HB.out | apply below_alloc | apply pw_below_drewN | apply below_drew1) | exact HB.out)⟩
                  ·
                   rw [if_neg c82] at H
                   exact absurd H (by simp)
                 ·
                  rw [if_neg c81] at H
                  have c81b0 : decide ((((rd_T33 t351 0).f0).size : Int) ≤ (x0_5.size : Int)) = false := decide_eq_false c81
                  have c81b1 : decide (((rd_T33 t351 0).f0).size ≤ x0_5.size) = false := decide_eq_false (fun h => c81 (Int.ofNat_le.mpr h))
                  clear c81
                  obtain rfl := Option.some.inj H
                  go_wp2
                  go_ret
                  exact ⟨by first | rfl | (simp [errW_none, errW_some] <;> rfl) | (simp [*, errW_none, errW_some] <;> rfl), by repeat (first | (with_reducible first | exact HB.out | apply below_alloc | apply pw_below_drewN | apply below_drew1) | exact HB.out)⟩
             ·
              rw [if_neg c59] at H
              exact absurd H (by simp)
         ·
          rw [if_neg c48] at H
          exact absurd H (by simp)

/-- THE ONE PURE STATEMENT of haversacklaw10_HeaderPeople: yours. -/
def haversacklaw10_HeaderPeople.Pure : Prop := ∀ (a0 : ByteArray) (a1 : ByteArray), a0.size ≤ 140737488351232 → a1.size ≤ 140737488351232 → ∃ k, haversacklaw10_HeaderPeople.f k a0 a1 = some true
theorem haversacklaw10_HeaderPeople.walk (P : haversacklaw10_HeaderPeople.Pure) (a0 : ByteArray) (a1 : ByteArray) (w : World) (w0 : a0.size ≤ 140737488351232) (w1 : a1.size ≤ 140737488351232) :
  Calls Tryd.prog 6 #[.string a0, .string a1] w fun e w' => e = .returned (.bool true) ∧ Below w.heap.size w w' := by
 obtain ⟨k, h⟩ := P a0 a1 w0 w1
 refine (haversacklaw10_HeaderPeople.calls k a0 a1 true w h).mono ?_
 rintro e w' ⟨rfl, hd⟩
 exact ⟨rfl, hd⟩

end Go.Proofs.YtkngjdhggcaonaaDoor.PP
