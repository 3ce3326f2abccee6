-- PRINTED by print.py (a twelfth state) out of the translation. Not trusted: Lean checks it.
import Derived.Test.YtkngjdhggcaonaaDoorPPx0
import Derived.Test.YtkngjdhggcaonaaDoorPPx16
import Derived.Test.YtkngjdhggcaonaaDoorPPx32
import Derived.Test.YtkngjdhggcaonaaDoorPPx35
namespace Go.Proofs.YtkngjdhggcaonaaDoor.PP
open Go.RowKit Go.Proofs.YtkngjdhggcaonaaDoorW.PrintWords Go.Proofs.YtkngjdhggcaonaaDoorW.PrintLast Go.Proofs.YtkngjdhggcaonaaDoorW.PrintMore
attribute [local go_sem] max2_int min2_int max_two min_two max_three min_three max_four min_four   -- for this text's walks alone
open Go.Proofs.YtkngjdhggcaonaaDoor.My
set_option linter.unusedVariables false
set_option linter.unusedSimpArgs false

/-! ### haversacklaw10_HeaderSplits: function 8 -/
mutual
def haversacklaw10_HeaderSplits.j0 : Nat → ByteArray → List ByteArray → Bool → Option (Bool)
 | 0, _, _, _ => none
 | k + 1, x0, x1, x16 => if x16 = true then ((haversacklaw10_alive.f k).bind fun t394 => (some t394)) else ((header_Only.f k x0 true ([] : List ByteArray)).bind fun t395 => ((header_Only.f k x0 false x1).bind fun t396 => ((header_Only.f k x0 true x1).bind fun t397 => (if (t395.size : Int) = (wrap64 ((wrap64 ((t396.size : Int) + (t397.size : Int))) - 2)) then ((header_Only.f k x0 false ([] : List ByteArray)).bind fun t398 => (if t398.toList = ([13, 10] : List UInt8) then ((header_Only.f k t395 true ([] : List ByteArray)).bind fun t399 => (haversacklaw10_HeaderSplits.j1 k x0 (t399.toList != t395.toList))) else (haversacklaw10_HeaderSplits.j1 k x0 true))) else (haversacklaw10_HeaderSplits.j1 k x0 true)))))
def haversacklaw10_HeaderSplits.j1 : Nat → ByteArray → Bool → Option (Bool)
 | 0, _, _ => none
 | k + 1, x0, x45 => if x45 = true then (if (x0.size : Int) = 0 then (some false) else (if 0 ≤ (wrap64 ((x0.size : Int) - 1)) then (if (wrap64 ((x0.size : Int) - 1)) < (x0.size : Int) then (if (bt x0 (wrap64 ((x0.size : Int) - 1))) = 10 then (some false) else ((haversacklaw10_alive.f k).bind fun t400 => (some t400))) else (none)) else (none))) else ((haversacklaw10_alive.f k).bind fun t401 => (some t401))
end
def haversacklaw10_HeaderSplits.f (k : Nat) (a0 : ByteArray) (l1 : List ByteArray) : Option (Bool) := if (a0.size : Int) > 4000 then (haversacklaw10_HeaderSplits.j0 k a0 l1 true) else ((haversacklaw10_few.f k l1).bind fun t393 => (haversacklaw10_HeaderSplits.j0 k a0 l1 (!t393)))
theorem haversacklaw10_HeaderSplits.mono_l : ∀ k, (∀ y0 y1 y2, LeO (haversacklaw10_HeaderSplits.j0 k y0 y1 y2) (haversacklaw10_HeaderSplits.j0 (k + 1) y0 y1 y2)) ∧ (∀ y0 y1, LeO (haversacklaw10_HeaderSplits.j1 k y0 y1) (haversacklaw10_HeaderSplits.j1 (k + 1) y0 y1))
 | 0 => ⟨fun _ _ _ r h => by simp [haversacklaw10_HeaderSplits.j0] at h, fun _ _ r h => by simp [haversacklaw10_HeaderSplits.j1] at h⟩
 | k + 1 => by
  obtain ⟨ih0, ih1⟩ := haversacklaw10_HeaderSplits.mono_l k
  refine ⟨?_, ?_⟩
  ·
   intro y0 y1 y2
   unfold haversacklaw10_HeaderSplits.j0
   repeat' first
   | (with_reducible exact ih0 _ _ _)
   | (with_reducible exact ih1 _ _)
   | (with_reducible exact haversacklaw10_alive.mono _)
   | (with_reducible exact haversacklaw10_few.mono _ _)
   | (with_reducible exact header_Only.mono _ _ _ _)
   | (with_reducible exact LeO.refl _)
   | (with_reducible exact LeO.none _)
   | (with_reducible refine LeO.ite ?_ ?_)
   | (with_reducible refine LeO.bind ?_ (fun _ => ?_))
   | exact ih0 _ _ _
   | exact ih1 _ _
   | exact haversacklaw10_alive.mono _
   | exact haversacklaw10_few.mono _ _
   | exact header_Only.mono _ _ _ _
   | exact LeO.none _
   | refine LeO.ite ?_ ?_
   | refine LeO.bind ?_ (fun _ => ?_)
  ·
   intro y0 y1
   unfold haversacklaw10_HeaderSplits.j1
   repeat' first
   | (with_reducible exact ih0 _ _ _)
   | (with_reducible exact ih1 _ _)
   | (with_reducible exact haversacklaw10_alive.mono _)
   | (with_reducible exact haversacklaw10_few.mono _ _)
   | (with_reducible exact header_Only.mono _ _ _ _)
   | (with_reducible exact LeO.refl _)
   | (with_reducible exact LeO.none _)
   | (with_reducible refine LeO.ite ?_ ?_)
   | (with_reducible refine LeO.bind ?_ (fun _ => ?_))
   | exact ih0 _ _ _
   | exact ih1 _ _
   | exact haversacklaw10_alive.mono _
   | exact haversacklaw10_few.mono _ _
   | exact header_Only.mono _ _ _ _
   | exact LeO.none _
   | refine LeO.ite ?_ ?_
   | refine LeO.bind ?_ (fun _ => ?_)
theorem haversacklaw10_HeaderSplits.mono : ∀ a0 a1 k, LeO (haversacklaw10_HeaderSplits.f k a0 a1) (haversacklaw10_HeaderSplits.f (k + 1) a0 a1) := by
 intro a0 a1 k
 obtain ⟨ih0, ih1⟩ := haversacklaw10_HeaderSplits.mono_l k
 unfold haversacklaw10_HeaderSplits.f
 repeat' first
   | (with_reducible exact ih0 _ _ _)
   | (with_reducible exact ih1 _ _)
   | (with_reducible exact haversacklaw10_alive.mono _)
   | (with_reducible exact haversacklaw10_few.mono _ _)
   | (with_reducible exact header_Only.mono _ _ _ _)
   | (with_reducible exact LeO.refl _)
   | (with_reducible exact LeO.none _)
   | (with_reducible refine LeO.ite ?_ ?_)
   | (with_reducible refine LeO.bind ?_ (fun _ => ?_))
   | exact ih0 _ _ _
   | exact ih1 _ _
   | exact haversacklaw10_alive.mono _
   | exact haversacklaw10_few.mono _ _
   | exact header_Only.mono _ _ _ _
   | exact LeO.none _
   | refine LeO.ite ?_ ?_
   | refine LeO.bind ?_ (fun _ => ?_)
set_option maxHeartbeats 8000000 in
set_option maxRecDepth 100000 in
theorem haversacklaw10_HeaderSplits.calls (k : Nat) (a0 : ByteArray) (A1 : Option Addr) (c1 : Nat) (l1 : List ByteArray) (r : Bool) (w : World) (hr1 : Kd.C Kd.string w A1 l1.length l1) (hc1 : l1.length ≤ c1) (h : haversacklaw10_HeaderSplits.f k a0 l1 = some r) :
  Calls Tryd.prog 8 #[.string a0, .slice A1 l1.length c1] w fun e w' => e = .returned (.bool r) ∧ Below w.heap.size w w' := by
 have HR1 := Aside0.mk hr1
 have HC1 := Aside0.mk hc1
 clear hr1 hc1
 have HB := Aside0.mk (Below.refl w.heap.size w)
 have H : (if (a0.size : Int) > 4000 then (haversacklaw10_HeaderSplits.j0 k a0 l1 true) else ((haversacklaw10_few.f k l1).bind fun t393 => (haversacklaw10_HeaderSplits.j0 k a0 l1 (!t393)))) = some r := h
 clear h
 have HC3 := Aside0.mk H
 clear H
 go_enter Tryd.func8, Tryd.ntmps8
 go_upto_region 1 with (fail)
 go_cut [16] (fun v16 wc => ∃ (kq : Nat) (x16_2 : Bool), v16 = .bool x16_2 ∧ Aside0 (haversacklaw10_HeaderSplits.j0 kq a0 l1 x16_2 = some r) ∧ Aside0 (kq ≤ k) ∧ Aside0 (Below w.heap.size w wc))
 case first =>
  have H := HC3.out
  clear HC3
  by_cases c4 : (a0.size : Int) > 4000
  ·
   rw [if_pos c4] at H
   have c4b0 : decide (4000 < (a0.size : Int)) = true := decide_eq_true c4
   have c4b1 : decide (4000 < a0.size) = true := decide_eq_true (by omega)
   clear c4
   (first | rw [c4b0] | (simp only [i64_w, i32_w]; rw [c4b0]) | skip)
   have H' := Aside0.mk H
   clear H
   go_wp2
   go_meet
   case rel => exact ⟨_, (true), (by first | with_reducible rfl | (simp only [pps, Nat.reduceAdd, Int.toNat_natCast]; done) | rfl | (simp; done) | (simp [*]; done)), H', ⟨by first | omega | exact Nat.le_refl _⟩, ⟨by repeat (first | (with_reducible first | exact HB.out | apply below_alloc | apply pw_below_drewN | apply below_drew1) | exact HB.out)⟩⟩
  ·
   rw [if_neg c4] at H
   have c4b0 : decide (4000 < (a0.size : Int)) = false := decide_eq_false c4
   have c4b1 : decide (4000 < a0.size) = false := decide_eq_false (by omega)
   clear c4
   (first | rw [c4b0] | (simp only [i64_w, i32_w]; rw [c4b0]) | skip)
   replace H := Option.bind_eq_some_iff.mp H
   obtain ⟨t393, A50, H⟩ := H
   replace H : (haversacklaw10_HeaderSplits.j0 k a0 l1 (!t393)) = some r := H
   have A5 := Aside0.mk A50
   clear A50
   have H' := Aside0.mk H
   clear H
   go_wp2_with (first | (go_at_call 20; (with_reducible refine (haversacklaw10_few.calls k _ _ l1 t393 _ ?side1 ?side2 A5.out).mono ?_); (case side1 => repeat (first | exact (Kd.C_below HR1.out HB.out) | (with_reducible refine Kd.C_alloc ?_ _) | (with_reducible refine Kd.C_drewN ?_ _) | (with_reducible refine Kd.C_drew ?_))); (case side2 => exact HC1.out); rintro e w6 ⟨rfl, hb⟩; have n0_ := Aside0.mk (below_step (by repeat (first | (with_reducible first | exact HB.out | apply below_alloc | apply pw_below_drewN | apply below_drew1) | exact HB.out)) hb); clear HB; have HB := n0_; clear n0_; (try clear hb); (try clear hb2); (try clear hk); (try clear hi)))
   go_meet
   case rel => exact ⟨_, (!t393), (by first | with_reducible rfl | (simp only [pps, Nat.reduceAdd, Int.toNat_natCast]; done) | rfl | (simp; done) | (simp [*]; done)), H', ⟨by first | omega | exact Nat.le_refl _⟩, ⟨by repeat (first | (with_reducible first | exact HB.out | apply below_alloc | apply pw_below_drewN | apply below_drew1) | exact HB.out)⟩⟩
 case rest =>
  clear HC3
  try clear c1
  try clear p2
  try clear c4
  try clear c4b0
  try clear c4b1
  obtain ⟨kq, x16_2, rfl, HA, HJ2, HB⟩ := hcut
  cases kq with
  | zero => exact absurd HA.out (by simp [haversacklaw10_HeaderSplits.j0])
  | succ kj2 =>
   have H := HA.out
   clear HA
   simp only [haversacklaw10_HeaderSplits.j0] at H
   by_cases c7 : x16_2 = true
   ·
    subst c7
    have H1 : ((haversacklaw10_alive.f kj2).bind fun t394 => (some t394)) = some r := by rw [if_pos rfl] at H; exact H
    clear H
    have H := H1
    clear H1
    replace H := Option.bind_eq_some_iff.mp H
    obtain ⟨t394, A80, H⟩ := H
    replace H : (some t394) = some r := H
    have A8 := Aside0.mk A80
    clear A80
    obtain rfl := Option.some.inj H
    go_wp2_with (first | ((with_reducible refine gate_callee (f := 10) rfl ?_); refine goesL_ (some 17) rfl rfl Tryd.func10 (by kernel_rfl) rfl #[] rfl (by (try simp only [List.map_toArray, List.map_cons, List.map_nil]); first | done | rfl | (simp only [List.length_drop, List.length_take]; rfl)) ?_; (with_reducible refine (haversacklaw10_alive.calls kj2  t394 _ A8.out).mono ?_); rintro e w9 ⟨rfl, hb⟩; refine ⟨_, rfl, ?_⟩; have n0_ := Aside0.mk (below_step (by repeat (first | (with_reducible first | exact HB.out | apply below_alloc | apply pw_below_drewN | apply below_drew1) | exact HB.out)) hb); clear HB; have HB := n0_; clear n0_; (try clear hb); (try clear hb2); (try clear hk); (try clear hi)))
    go_ret
    exact ⟨by first | rfl | (simp [errW_none, errW_some] <;> rfl) | (simp [*, errW_none, errW_some] <;> rfl), by repeat (first | (with_reducible first | exact HB.out | apply below_alloc | apply pw_below_drewN | apply below_drew1) | exact HB.out)⟩
   ·
    replace c7 := Bool.eq_false_iff.mpr c7
    subst c7
    have H1 : ((header_Only.f kj2 a0 true ([] : List ByteArray)).bind fun t395 => ((header_Only.f kj2 a0 false l1).bind fun t396 => ((header_Only.f kj2 a0 true l1).bind fun t397 => (if (t395.size : Int) = (wrap64 ((wrap64 ((t396.size : Int) + (t397.size : Int))) - 2)) then ((header_Only.f kj2 a0 false ([] : List ByteArray)).bind fun t398 => (if t398.toList = ([13, 10] : List UInt8) then ((header_Only.f kj2 t395 true ([] : List ByteArray)).bind fun t399 => (haversacklaw10_HeaderSplits.j1 kj2 a0 (t399.toList != t395.toList))) else (haversacklaw10_HeaderSplits.j1 kj2 a0 true))) else (haversacklaw10_HeaderSplits.j1 kj2 a0 true))))) = some r := by rw [if_neg (show ¬ (false = true) by decide)] at H; exact H
    clear H
    have H := H1
    clear H1
    replace H := Option.bind_eq_some_iff.mp H
    obtain ⟨t395, A100, H⟩ := H
    replace H : ((header_Only.f kj2 a0 false l1).bind fun t396 => ((header_Only.f kj2 a0 true l1).bind fun t397 => (if (t395.size : Int) = (wrap64 ((wrap64 ((t396.size : Int) + (t397.size : Int))) - 2)) then ((header_Only.f kj2 a0 false ([] : List ByteArray)).bind fun t398 => (if t398.toList = ([13, 10] : List UInt8) then ((header_Only.f kj2 t395 true ([] : List ByteArray)).bind fun t399 => (haversacklaw10_HeaderSplits.j1 kj2 a0 (t399.toList != t395.toList))) else (haversacklaw10_HeaderSplits.j1 kj2 a0 true))) else (haversacklaw10_HeaderSplits.j1 kj2 a0 true)))) = some r := H
    have A10 := Aside0.mk A100
    clear A100
    replace H := Option.bind_eq_some_iff.mp H
    obtain ⟨t396, A110, H⟩ := H
    replace H : ((header_Only.f kj2 a0 true l1).bind fun t397 => (if (t395.size : Int) = (wrap64 ((wrap64 ((t396.size : Int) + (t397.size : Int))) - 2)) then ((header_Only.f kj2 a0 false ([] : List ByteArray)).bind fun t398 => (if t398.toList = ([13, 10] : List UInt8) then ((header_Only.f kj2 t395 true ([] : List ByteArray)).bind fun t399 => (haversacklaw10_HeaderSplits.j1 kj2 a0 (t399.toList != t395.toList))) else (haversacklaw10_HeaderSplits.j1 kj2 a0 true))) else (haversacklaw10_HeaderSplits.j1 kj2 a0 true))) = some r := H
    have A11 := Aside0.mk A110
    clear A110
    replace H := Option.bind_eq_some_iff.mp H
    obtain ⟨t397, A120, H⟩ := H
    replace H : (if (t395.size : Int) = (wrap64 ((wrap64 ((t396.size : Int) + (t397.size : Int))) - 2)) then ((header_Only.f kj2 a0 false ([] : List ByteArray)).bind fun t398 => (if t398.toList = ([13, 10] : List UInt8) then ((header_Only.f kj2 t395 true ([] : List ByteArray)).bind fun t399 => (haversacklaw10_HeaderSplits.j1 kj2 a0 (t399.toList != t395.toList))) else (haversacklaw10_HeaderSplits.j1 kj2 a0 true))) else (haversacklaw10_HeaderSplits.j1 kj2 a0 true)) = some r := H
    have A12 := Aside0.mk A120
    clear A120
    have HC13 := Aside0.mk H
    clear H
    go_upto_region 4 with (first | ((with_reducible refine gate_callee (f := 26) rfl ?_); refine goesL_ (some 19) rfl rfl Tryd.func26 (by kernel_rfl) rfl #[.string a0, .bool true, .slice none 0 0] rfl (by (try simp only [List.map_toArray, List.map_cons, List.map_nil]); first | done | rfl | (simp only [List.length_drop, List.length_take]; rfl)) ?_; (refine (header_Only.calls kj2 a0 true _ _ ([] : List ByteArray) t395 _ ?side1 ?side2 A10.out).mono ?_); (case side1 => exact Kd.C_nil _ _); (case side2 => exact Nat.le_refl _); rintro e w14 ⟨rfl, hb⟩; refine ⟨_, rfl, ?_⟩; have n0_ := Aside0.mk (below_step (by repeat (first | (with_reducible first | exact HB.out | apply below_alloc | apply pw_below_drewN | apply below_drew1) | exact HB.out)) hb); clear HB; have HB := n0_; clear n0_; (try clear hb); (try clear hb2); (try clear hk); (try clear hi)) | ((with_reducible refine gate_callee (f := 26) rfl ?_); refine goesL_ (some 22) rfl rfl Tryd.func26 (by kernel_rfl) rfl #[.string a0, .bool false, .slice A1 l1.length c1] rfl (by (try simp only [List.map_toArray, List.map_cons, List.map_nil]); first | done | rfl | (simp only [List.length_drop, List.length_take]; rfl)) ?_; (with_reducible refine (header_Only.calls kj2 a0 false _ _ l1 t396 _ ?side1 ?side2 A11.out).mono ?_); (case side1 => repeat (first | exact (Kd.C_below HR1.out HB.out) | (with_reducible refine Kd.C_alloc ?_ _) | (with_reducible refine Kd.C_drewN ?_ _) | (with_reducible refine Kd.C_drew ?_))); (case side2 => exact HC1.out); rintro e w15 ⟨rfl, hb⟩; refine ⟨_, rfl, ?_⟩; have n0_ := Aside0.mk (below_step (by repeat (first | (with_reducible first | exact HB.out | apply below_alloc | apply pw_below_drewN | apply below_drew1) | exact HB.out)) hb); clear HB; have HB := n0_; clear n0_; (try clear hb); (try clear hb2); (try clear hk); (try clear hi)) | ((with_reducible refine gate_callee (f := 26) rfl ?_); refine goesL_ (some 25) rfl rfl Tryd.func26 (by kernel_rfl) rfl #[.string a0, .bool true, .slice A1 l1.length c1] rfl (by (try simp only [List.map_toArray, List.map_cons, List.map_nil]); first | done | rfl | (simp only [List.length_drop, List.length_take]; rfl)) ?_; (with_reducible refine (header_Only.calls kj2 a0 true _ _ l1 t397 _ ?side1 ?side2 A12.out).mono ?_); (case side1 => repeat (first | exact (Kd.C_below HR1.out HB.out) | (with_reducible refine Kd.C_alloc ?_ _) | (with_reducible refine Kd.C_drewN ?_ _) | (with_reducible refine Kd.C_drew ?_))); (case side2 => exact HC1.out); rintro e w16 ⟨rfl, hb⟩; refine ⟨_, rfl, ?_⟩; have n0_ := Aside0.mk (below_step (by repeat (first | (with_reducible first | exact HB.out | apply below_alloc | apply pw_below_drewN | apply below_drew1) | exact HB.out)) hb); clear HB; have HB := n0_; clear n0_; (try clear hb); (try clear hb2); (try clear hk); (try clear hi)))
    (try simp only [Act.put, List.setIfInBounds_toArray, List.set_cons_zero, List.set_cons_succ])
    go_cut [45] (fun v45 wc => ∃ (kq : Nat) (x45_12 : Bool), v45 = .bool x45_12 ∧ Aside0 (haversacklaw10_HeaderSplits.j1 kq a0 x45_12 = some r) ∧ Aside0 (kq ≤ kj2) ∧ Aside0 (Below w.heap.size w wc))
    case first =>
     have H := HC13.out
     clear HC13
     by_cases c17 : (t395.size : Int) = (wrap64 ((wrap64 ((t396.size : Int) + (t397.size : Int))) - 2))
     ·
      rw [if_pos c17] at H
      have c17b0 : ((t395.size : Int) == (wrap64 ((wrap64 ((t396.size : Int) + (t397.size : Int))) - 2))) = true := beq_iff_eq.mpr c17
      have c17b1 : ((t395.size : Int) != (wrap64 ((wrap64 ((t396.size : Int) + (t397.size : Int))) - 2))) = false := bne_eq_false_iff_eq.mpr c17
      clear c17
      (first | rw [c17b0] | (simp only [i64_w, i32_w]; rw [c17b0]) | skip)
      replace H := Option.bind_eq_some_iff.mp H
      obtain ⟨t398, A180, H⟩ := H
      replace H : (if t398.toList = ([13, 10] : List UInt8) then ((header_Only.f kj2 t395 true ([] : List ByteArray)).bind fun t399 => (haversacklaw10_HeaderSplits.j1 kj2 a0 (t399.toList != t395.toList))) else (haversacklaw10_HeaderSplits.j1 kj2 a0 true)) = some r := H
      have A18 := Aside0.mk A180
      clear A180
      by_cases c19 : t398.toList = ([13, 10] : List UInt8)
      ·
       rw [if_pos c19] at H
       have c19b0 : (t398.toList == ([13, 10] : List UInt8)) = true := beq_iff_eq.mpr c19
       have c19b1 : (t398.toList != ([13, 10] : List UInt8)) = false := bne_eq_false_iff_eq.mpr c19
       clear c19
       replace H := Option.bind_eq_some_iff.mp H
       obtain ⟨t399, A200, H⟩ := H
       replace H : (haversacklaw10_HeaderSplits.j1 kj2 a0 (t399.toList != t395.toList)) = some r := H
       have A20 := Aside0.mk A200
       clear A200
       have H' := Aside0.mk H
       clear H
       have HX0_ := fun W => header_Only.calls kj2 a0 false none 0 ([] : List ByteArray) t398 W (Kd.C_nil _ _) (Nat.le_refl _) A18.out
       simp only [List.length_nil] at HX0_
       have HX2_ := fun W => header_Only.calls kj2 t395 true none 0 ([] : List ByteArray) t399 W (Kd.C_nil _ _) (Nat.le_refl _) A20.out
       simp only [List.length_nil] at HX2_
       go_wp2_with (first | (go_at_call 26; ((with_reducible refine (HX0_ _).mono ?_)); rintro e w21 ⟨rfl, hb⟩; have n0_ := Aside0.mk (below_step (by repeat (first | (with_reducible first | exact HB.out | apply below_alloc | apply pw_below_drewN | apply below_drew1) | exact HB.out)) hb); clear HB; have HB := n0_; clear n0_; (try clear hb); (try clear hb2); (try clear hk); (try clear hi)) | (go_at_call 26; ((with_reducible refine (HX2_ _).mono ?_)); rintro e w22 ⟨rfl, hb⟩; have n0_ := Aside0.mk (below_step (by repeat (first | (with_reducible first | exact HB.out | apply below_alloc | apply pw_below_drewN | apply below_drew1) | exact HB.out)) hb); clear HB; have HB := n0_; clear n0_; (try clear hb); (try clear hb2); (try clear hk); (try clear hi)))
       go_meet
       case rel => exact ⟨_, ((t399.toList != t395.toList)), (by first | with_reducible rfl | (simp only [pps, Nat.reduceAdd, Int.toNat_natCast]; done) | rfl | (simp; done) | (simp [*]; done)), H', ⟨by have := HJ2.out; first | omega | exact Nat.le_refl _⟩, ⟨by repeat (first | (with_reducible first | exact HB.out | apply below_alloc | apply pw_below_drewN | apply below_drew1) | exact HB.out)⟩⟩
      ·
       rw [if_neg c19] at H
       have c19b0 : (t398.toList == ([13, 10] : List UInt8)) = false := beq_eq_false_iff_ne.mpr c19
       have c19b1 : (t398.toList != ([13, 10] : List UInt8)) = true := bne_iff_ne.mpr c19
       have H' := Aside0.mk H
       clear H
       go_wp2_with (first | (go_at_call 26; (refine (header_Only.calls kj2 a0 false _ _ ([] : List ByteArray) t398 _ ?side1 ?side2 A18.out).mono ?_); (case side1 => exact Kd.C_nil _ _); (case side2 => exact Nat.le_refl _); rintro e w23 ⟨rfl, hb⟩; have n0_ := Aside0.mk (below_step (by repeat (first | (with_reducible first | exact HB.out | apply below_alloc | apply pw_below_drewN | apply below_drew1) | exact HB.out)) hb); clear HB; have HB := n0_; clear n0_; (try clear hb); (try clear hb2); (try clear hk); (try clear hi)))
       go_meet
       case rel => exact ⟨_, (true), (by first | with_reducible rfl | (simp only [pps, Nat.reduceAdd, Int.toNat_natCast]; done) | rfl | (simp; done) | (simp [*]; done)), H', ⟨by have := HJ2.out; first | omega | exact Nat.le_refl _⟩, ⟨by repeat (first | (with_reducible first | exact HB.out | apply below_alloc | apply pw_below_drewN | apply below_drew1) | exact HB.out)⟩⟩
     ·
      rw [if_neg c17] at H
      have c17b0 : ((t395.size : Int) == (wrap64 ((wrap64 ((t396.size : Int) + (t397.size : Int))) - 2))) = false := beq_eq_false_iff_ne.mpr c17
      have c17b1 : ((t395.size : Int) != (wrap64 ((wrap64 ((t396.size : Int) + (t397.size : Int))) - 2))) = true := bne_iff_ne.mpr c17
      (first | rw [c17b0] | (simp only [i64_w, i32_w]; rw [c17b0]) | skip)
      have H' := Aside0.mk H
      clear H
      go_wp2
      go_meet
      case rel => exact ⟨_, (true), (by first | with_reducible rfl | (simp only [pps, Nat.reduceAdd, Int.toNat_natCast]; done) | rfl | (simp; done) | (simp [*]; done)), H', ⟨by have := HJ2.out; first | omega | exact Nat.le_refl _⟩, ⟨by repeat (first | (with_reducible first | exact HB.out | apply below_alloc | apply pw_below_drewN | apply below_drew1) | exact HB.out)⟩⟩
    case rest =>
     clear HC13
     try clear c1
     try clear c2
     try clear p2
     try clear c4
     try clear c4b0
     try clear c4b1
     try clear p6
     try clear c7
     try clear c8
     try clear c10
     try clear c17
     try clear c17b0
     try clear c17b1
     try clear c19
     try clear c19b0
     try clear c19b1
     try clear p2
     obtain ⟨kq, x45_12, rfl, HA, HJ12, HB⟩ := hcut
     cases kq with
     | zero => exact absurd HA.out (by simp [haversacklaw10_HeaderSplits.j1])
     | succ kj12 =>
      have H := HA.out
      clear HA
      simp only [haversacklaw10_HeaderSplits.j1] at H
      by_cases c24 : x45_12 = true
      ·
       subst c24
       have H1 : (if (a0.size : Int) = 0 then (some false) else (if 0 ≤ (wrap64 ((a0.size : Int) - 1)) then (if (wrap64 ((a0.size : Int) - 1)) < (a0.size : Int) then (if (bt a0 (wrap64 ((a0.size : Int) - 1))) = 10 then (some false) else ((haversacklaw10_alive.f kj12).bind fun t400 => (some t400))) else (none)) else (none))) = some r := by rw [if_pos rfl] at H; exact H
       clear H
       have H := H1
       clear H1
       by_cases c25 : (a0.size : Int) = 0
       ·
        rw [if_pos c25] at H
        have c25b0 : ((a0.size : Int) == 0) = true := beq_iff_eq.mpr c25
        have c25b1 : ((a0.size : Int) != 0) = false := bne_eq_false_iff_eq.mpr c25
        clear c25
        obtain rfl := Option.some.inj H
        go_wp2
        go_ret
        exact ⟨by first | rfl | (simp [errW_none, errW_some] <;> rfl) | (simp [*, errW_none, errW_some] <;> rfl), by repeat (first | (with_reducible first | exact HB.out | apply below_alloc | apply pw_below_drewN | apply below_drew1) | exact HB.out)⟩
       ·
        rw [if_neg c25] at H
        have c25b0 : ((a0.size : Int) == 0) = false := beq_eq_false_iff_ne.mpr c25
        have c25b1 : ((a0.size : Int) != 0) = true := bne_iff_ne.mpr c25
        obtain ⟨ji26, hji26⟩ : ∃ j_ : Int, (wrap64 ((a0.size : Int) - 1)) = j_ := ⟨_, rfl⟩
        replace H : (if 0 ≤ (ji26) then (if (ji26) < (a0.size : Int) then (if (bt a0 (ji26)) = 10 then (some false) else ((haversacklaw10_alive.f kj12).bind fun t400 => (some t400))) else (none)) else (none)) = some r := by first | (rw [hji26] at H; exact H) | (simp only [hji26] at H ⊢; exact H)
        have hji26w : (IntKind.i64.wrap ((a0.size : Int) - 1)) = ji26 := (i64_w _).trans hji26
        by_cases c27 : 0 ≤ (ji26)
        ·
         rw [if_pos c27] at H
         have c27b0 : decide (0 ≤ (ji26)) = true := decide_eq_true c27
         clear c27
         by_cases c28 : (ji26) < (a0.size : Int)
         ·
          rw [if_pos c28] at H
          have c28b0 : decide ((ji26) < (a0.size : Int)) = true := decide_eq_true c28
          clear c28
          by_cases c30 : (bt a0 (ji26)) = 10
          ·
           rw [if_pos c30] at H
           have c30b0 : ((bt a0 (ji26)) == 10) = true := beq_iff_eq.mpr c30
           have c30b1 : ((bt a0 (ji26)) != 10) = false := bne_eq_false_iff_eq.mpr c30
           clear c30
           obtain rfl := Option.some.inj H
           have p29 : 0 ≤ ((ji26) : Int) := of_decide_eq_true (by first | (with_reducible assumption) | assumption)
           have q29 : (ji26) < (a0.size : Int) := of_decide_eq_true (by first | (with_reducible assumption) | assumption)
           have hx29 := bt_at a0 (ji26)
           replace p29 := eq_true p29
           replace q29 := eq_true q29
           go_wp2
           go_ret
           exact ⟨by first | rfl | (simp [errW_none, errW_some] <;> rfl) | (simp only [← hji26]; first | rfl | (simp [errW_none, errW_some] <;> rfl)) | (simp [*, errW_none, errW_some] <;> rfl), by repeat (first | (with_reducible first | exact HB.out | apply below_alloc | apply pw_below_drewN | apply below_drew1) | exact HB.out)⟩
          ·
           rw [if_neg c30] at H
           have c30b0 : ((bt a0 (ji26)) == 10) = false := beq_eq_false_iff_ne.mpr c30
           have c30b1 : ((bt a0 (ji26)) != 10) = true := bne_iff_ne.mpr c30
           replace H := Option.bind_eq_some_iff.mp H
           obtain ⟨t400, A310, H⟩ := H
           replace H : (some t400) = some r := H
           have A31 := Aside0.mk A310
           clear A310
           obtain rfl := Option.some.inj H
           have p29 : 0 ≤ ((ji26) : Int) := of_decide_eq_true (by first | (with_reducible assumption) | assumption)
           have q29 : (ji26) < (a0.size : Int) := of_decide_eq_true (by first | (with_reducible assumption) | assumption)
           have hx29 := bt_at a0 (ji26)
           replace p29 := eq_true p29
           replace q29 := eq_true q29
           go_wp2_with (first | ((with_reducible refine gate_callee (f := 10) rfl ?_); refine goesL_ (some 57) rfl rfl Tryd.func10 (by kernel_rfl) rfl #[] rfl (by (try simp only [List.map_toArray, List.map_cons, List.map_nil]); first | done | rfl | (simp only [List.length_drop, List.length_take]; rfl)) ?_; (with_reducible refine (haversacklaw10_alive.calls kj12  t400 _ A31.out).mono ?_); rintro e w32 ⟨rfl, hb⟩; refine ⟨_, rfl, ?_⟩; have n0_ := Aside0.mk (below_step (by repeat (first | (with_reducible first | exact HB.out | apply below_alloc | apply pw_below_drewN | apply below_drew1) | exact HB.out)) hb); clear HB; have HB := n0_; clear n0_; (try clear hb); (try clear hb2); (try clear hk); (try clear hi)))
           go_ret
           exact ⟨by first | rfl | (simp [errW_none, errW_some] <;> rfl) | (simp only [← hji26]; first | rfl | (simp [errW_none, errW_some] <;> rfl)) | (simp [*, errW_none, errW_some] <;> rfl), by repeat (first | (with_reducible first | exact HB.out | apply below_alloc | apply pw_below_drewN | apply below_drew1) | exact HB.out)⟩
         ·
          rw [if_neg c28] at H
          exact absurd H (by simp)
        ·
         rw [if_neg c27] at H
         exact absurd H (by simp)
      ·
       replace c24 := Bool.eq_false_iff.mpr c24
       subst c24
       have H1 : ((haversacklaw10_alive.f kj12).bind fun t401 => (some t401)) = some r := by rw [if_neg (show ¬ (false = true) by decide)] at H; exact H
       clear H
       have H := H1
       clear H1
       replace H := Option.bind_eq_some_iff.mp H
       obtain ⟨t401, A330, H⟩ := H
       replace H : (some t401) = some r := H
       have A33 := Aside0.mk A330
       clear A330
       obtain rfl := Option.some.inj H
       go_wp2_with (first | ((with_reducible refine gate_callee (f := 10) rfl ?_); refine goesL_ (some 57) rfl rfl Tryd.func10 (by kernel_rfl) rfl #[] rfl (by (try simp only [List.map_toArray, List.map_cons, List.map_nil]); first | done | rfl | (simp only [List.length_drop, List.length_take]; rfl)) ?_; (with_reducible refine (haversacklaw10_alive.calls kj12  t401 _ A33.out).mono ?_); rintro e w34 ⟨rfl, hb⟩; refine ⟨_, rfl, ?_⟩; have n0_ := Aside0.mk (below_step (by repeat (first | (with_reducible first | exact HB.out | apply below_alloc | apply pw_below_drewN | apply below_drew1) | exact HB.out)) hb); clear HB; have HB := n0_; clear n0_; (try clear hb); (try clear hb2); (try clear hk); (try clear hi)))
       go_ret
       exact ⟨by first | rfl | (simp [errW_none, errW_some] <;> rfl) | (simp [*, errW_none, errW_some] <;> rfl), by repeat (first | (with_reducible first | exact HB.out | apply below_alloc | apply pw_below_drewN | apply below_drew1) | exact HB.out)⟩

end Go.Proofs.YtkngjdhggcaonaaDoor.PP
