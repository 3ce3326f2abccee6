/- YtkngjdhggcaonaaDoorPPx42, as far as HeaderEnvelopes needs it (prune.py). -/
import Derived.Test.YtkngjdhggcaonaaDoorHeaderEnvelopesPPx0
import Derived.Test.YtkngjdhggcaonaaDoorHeaderEnvelopesPPx34
import Derived.Test.YtkngjdhggcaonaaDoorHeaderEnvelopesPPx41
namespace Go.Proofs.YtkngjdhggcaonaaDoor.PP
open Go.RowKit Go.Proofs.YtkngjdhggcaonaaDoorW.PrintWords Go.Proofs.YtkngjdhggcaonaaDoorW.PrintLast Go.Proofs.YtkngjdhggcaonaaDoorW.PrintMore
attribute [local go_sem] max2_int min2_int max_two min_two max_three min_three max_four min_four   -- for this text's walks alone
open Go.Proofs.YtkngjdhggcaonaaDoor.My
set_option linter.unusedVariables false
set_option linter.unusedSimpArgs false
def haversackref10_one.f (k : Nat) (l0 : List (S37)) (a1 : ByteArray) : Option (List ByteArray) := (haversackref10_Get.f k l0 (([a1] : List ByteArray))).bind fun t470 => (if (t470.length : Int) > 1 then (if 1 ≤ (t470.length : Int) then (some (t470.take (1 : Int).toNat)) else (none)) else (some t470))
set_option maxHeartbeats 8000000 in
set_option maxRecDepth 100000 in
theorem haversackref10_one.calls (k : Nat) (A0 : Option Addr) (c0 : Nat) (l0 : List (S37)) (a1 : ByteArray) (r : List ByteArray) (w : World) (hr0 : Kd.C k37 w A0 l0.length l0) (hc0 : l0.length ≤ c0) (h : haversackref10_one.f k l0 a1 = some r) :
  Calls Tryd.prog 56 #[.slice A0 l0.length c0, .string a1] w fun e w' => ∃ v0_ : Value, e = .returned (v0_) ∧ Kd.R Kd.string 9 w' w.heap.size (fun _ => True) v0_ r ∧ Below w.heap.size w w' := by
 have HR0 := Aside0.mk hr0
 have HC0 := Aside0.mk hc0
 clear hr0 hc0
 have HB := Aside0.mk (Below.refl w.heap.size w)
 have H : ((haversackref10_Get.f k l0 (([a1] : List ByteArray))).bind fun t470 => (if (t470.length : Int) > 1 then (if 1 ≤ (t470.length : Int) then (some (t470.take (1 : Int).toNat)) else (none)) else (some t470))) = some r := h
 clear h
 obtain ⟨y467, hy467⟩ : ∃ y_ : List ByteArray, y_ = (([a1] : List ByteArray)) := ⟨_, rfl⟩
 replace H : ((haversackref10_Get.f k l0 y467).bind fun t470 => (if (t470.length : Int) > 1 then (if 1 ≤ (t470.length : Int) then (some (t470.take (1 : Int).toNat)) else (none)) else (some t470))) = some r := by first | (rw [hy467]; with_reducible exact H) | (have H2_ := (Option.bind_some _ _).symm.trans H; rw [hy467]; with_reducible exact H2_) | (have H2_ := (Option.bind_some _ _).symm.trans H; with_reducible exact H2_) | with_reducible exact H | (rw [hy467]; exact H) | exact H
 have Ny467 := Aside0.mk hy467
 clear hy467
 replace H := Option.bind_eq_some_iff.mp H
 obtain ⟨t470, A30, H⟩ := H
 replace H : (if (t470.length : Int) > 1 then (if 1 ≤ (t470.length : Int) then (some (t470.take (1 : Int).toNat)) else (none)) else (some t470)) = some r := H
 have A3 := Aside0.mk A30
 clear A30
 by_cases c4 : (t470.length : Int) > 1
 ·
  rw [if_pos c4] at H
  have c4b0 : decide (1 < (t470.length : Int)) = true := decide_eq_true c4
  have c4b1 : decide (1 < t470.length) = true := decide_eq_true (by omega)
  clear c4
  by_cases c5 : 1 ≤ (t470.length : Int)
  ·
   rw [if_pos c5] at H
   have c5b0 := eq_true c5
   have c5b1 : decide (1 ≤ (t470.length : Int)) = true := decide_eq_true c5
   clear c5
   obtain ⟨y473, hy473⟩ : ∃ y_ : List ByteArray, y_ = (t470.take (1 : Int).toNat) := ⟨_, rfl⟩
   replace H : (some y473) = some r := by first | (rw [hy473]; with_reducible exact H) | (have H2_ := (Option.bind_some _ _).symm.trans H; rw [hy473]; with_reducible exact H2_) | (have H2_ := (Option.bind_some _ _).symm.trans H; with_reducible exact H2_) | with_reducible exact H | (rw [hy473]; exact H) | exact H
   have Ny473 := Aside0.mk hy473
   clear hy473
   obtain rfl := Option.some.inj H
   go_enter Tryd.func56, Tryd.ntmps56
   go_wp2_with (first | ((with_reducible refine gate_dst (N := 8) rfl ?_); refine Kd.R_lit Kd.string _ 9 ?hg (N := 8) ?hd (xs := ([a1] : List ByteArray)) (inner := [.string a1]) (ok := fun _ => True) (okp := fun _ => True) ?hr ?hp (fun _ hk => hk) trivial (Below.refl _ _) (Nat.le_refl _) (by simp) ?_; (case hd => rfl); (case hg => rfl); (case hr => first | (go_simp; done) | (go_simp; rfl)); (case hp => exact (Reps.one (show Kd.M Kd.string _ _ _ a1 [.string a1] from rfl) (Reps.none _ _))); intro v468 w6 ho7 hb hg_ hnew_; clear hg_ hnew_; (first | rw [← Ny467.out] at ho7 | (simp only [Int.reduceToNat] at ho7; rw [← Ny467.out] at ho7)); have n0_ := Aside0.mk (Kd.R_lower ho7 (below_size (by repeat (first | (with_reducible first | exact HB.out | apply below_alloc | apply pw_below_drewN | apply below_drew1) | exact HB.out)))); have n1_ := Aside0.mk (below_step (by repeat (first | (with_reducible first | exact HB.out | apply below_alloc | apply pw_below_drewN | apply below_drew1) | exact HB.out)) hb); clear HB; have HO469 := n0_; have HB := n1_; clear n0_ n1_; clear hb ho7; obtain ⟨Ao8, co8, eo8⟩ := Kd.R_slice HO469.out; subst eo8) | ((with_reducible refine gate_callee (f := 25) rfl ?_); refine goesL_ (some 9) rfl rfl Tryd.func25 (by kernel_rfl) rfl #[.slice A0 l0.length c0, .slice Ao8 y467.length co8] rfl (by (try simp only [List.map_toArray, List.map_cons, List.map_nil]); first | done | rfl | (simp only [List.length_drop, List.length_take]; rfl)) ?_; (with_reducible refine (haversackref10_Get.calls k _ _ l0 _ _ y467 t470 _ ?side1 ?side2 ?side3 ?side4 A3.out).mono ?_); (case side1 => repeat (first | exact (Kd.C_below HR0.out HB.out) | (with_reducible refine Kd.C_alloc ?_ _) | (with_reducible refine Kd.C_drewN ?_ _) | (with_reducible refine Kd.C_drew ?_))); (case side2 => exact HC0.out); (case side3 => repeat (first | exact (Kd.R_reads' HO469.out).2.2 | (with_reducible refine Kd.C_alloc ?_ _) | (with_reducible refine Kd.C_drewN ?_ _) | (with_reducible refine Kd.C_drew ?_))); (case side4 => exact (Kd.R_reads' HO469.out).2.1); rintro e w9 ⟨v471, rfl, ho0, hb⟩; refine ⟨_, rfl, ?_⟩; have n0_ := Aside0.mk (Kd.R_elder' (by (with_reducible repeat (first | apply Kd.R_alloc | apply Kd.R_drewN | apply Kd.R_drew)); exact HO469.out) (Kd.R_base ho0) hb); have n1_ := Aside0.mk (Kd.R_lower (Kd.R_new' ho0 (Kd.R_lt (by (with_reducible repeat (first | apply Kd.R_alloc | apply Kd.R_drewN | apply Kd.R_drew)); exact HO469.out))) (below_size (by repeat (first | (with_reducible first | exact HB.out | apply below_alloc | apply pw_below_drewN | apply below_drew1) | exact HB.out)))); have n2_ := Aside0.mk (below_step (by repeat (first | (with_reducible first | exact HB.out | apply below_alloc | apply pw_below_drewN | apply below_drew1) | exact HB.out)) hb); clear HO469; clear HB; have HO469 := n0_; have HO472 := n1_; have HB := n2_; clear n0_ n1_ n2_; (try clear hb); (try clear hb2); (try clear hk); (try clear hi); (try clear ho0); obtain ⟨Ao10, co10, eo10⟩ := Kd.R_slice HO472.out; subst eo10; have q11 : (1 : Int) ≤ ((t470.length : Int) : Int) := of_decide_eq_true (by first | (with_reducible assumption) | assumption); obtain ⟨i011, hi011, _, hsz11, _⟩ := info_parts info9; have hcut11 := cut_to (P := Tryd.prog) 35 9 .i64 Tryd.underlying35 hi011 Ao10 t470.length co10 1 (by omega) q11 (Kd.R_reads' HO472.out).2.1; have hr11 := Kd.R_take (m := (1 : Int).toNat) HO472.out (by omega); have hy11 : y473.length = (1 : Int).toNat := (by rw [Ny473.out, List.length_take]; omega); rw [← Ny473.out] at hr11; rw [← hy11] at hr11 hcut11; clear hy11 hi011 hsz11 HO472; have HO475 := Aside0.mk hr11; clear hr11; replace q11 := eq_true q11))
   go_ret
   exact ⟨_, by first | rfl | (simp [errW_none, errW_some] <;> rfl) | (simp [*, errW_none, errW_some] <;> rfl), by (with_reducible repeat (first | apply Kd.R_alloc | apply Kd.R_drewN | apply Kd.R_drew)); exact Kd.R_mono HO475.out (fun _ hk => trivial), by repeat (first | (with_reducible first | exact HB.out | apply below_alloc | apply pw_below_drewN | apply below_drew1) | exact HB.out)⟩
  ·
   rw [if_neg c5] at H
   exact absurd H (by simp)
 ·
  rw [if_neg c4] at H
  have c4b0 : decide (1 < (t470.length : Int)) = false := decide_eq_false c4
  have c4b1 : decide (1 < t470.length) = false := decide_eq_false (by omega)
  clear c4
  obtain rfl := Option.some.inj H
  go_enter Tryd.func56, Tryd.ntmps56
  go_wp2_with (first | ((with_reducible refine gate_dst (N := 8) rfl ?_); refine Kd.R_lit Kd.string _ 9 ?hg (N := 8) ?hd (xs := ([a1] : List ByteArray)) (inner := [.string a1]) (ok := fun _ => True) (okp := fun _ => True) ?hr ?hp (fun _ hk => hk) trivial (Below.refl _ _) (Nat.le_refl _) (by simp) ?_; (case hd => rfl); (case hg => rfl); (case hr => first | (go_simp; done) | (go_simp; rfl)); (case hp => exact (Reps.one (show Kd.M Kd.string _ _ _ a1 [.string a1] from rfl) (Reps.none _ _))); intro v468 w12 ho13 hb hg_ hnew_; clear hg_ hnew_; (first | rw [← Ny467.out] at ho13 | (simp only [Int.reduceToNat] at ho13; rw [← Ny467.out] at ho13)); have n0_ := Aside0.mk (Kd.R_lower ho13 (below_size (by repeat (first | (with_reducible first | exact HB.out | apply below_alloc | apply pw_below_drewN | apply below_drew1) | exact HB.out)))); have n1_ := Aside0.mk (below_step (by repeat (first | (with_reducible first | exact HB.out | apply below_alloc | apply pw_below_drewN | apply below_drew1) | exact HB.out)) hb); clear HB; have HO469 := n0_; have HB := n1_; clear n0_ n1_; clear hb ho13; obtain ⟨Ao14, co14, eo14⟩ := Kd.R_slice HO469.out; subst eo14) | ((with_reducible refine gate_callee (f := 25) rfl ?_); refine goesL_ (some 9) rfl rfl Tryd.func25 (by kernel_rfl) rfl #[.slice A0 l0.length c0, .slice Ao14 y467.length co14] rfl (by (try simp only [List.map_toArray, List.map_cons, List.map_nil]); first | done | rfl | (simp only [List.length_drop, List.length_take]; rfl)) ?_; (with_reducible refine (haversackref10_Get.calls k _ _ l0 _ _ y467 t470 _ ?side1 ?side2 ?side3 ?side4 A3.out).mono ?_); (case side1 => repeat (first | exact (Kd.C_below HR0.out HB.out) | (with_reducible refine Kd.C_alloc ?_ _) | (with_reducible refine Kd.C_drewN ?_ _) | (with_reducible refine Kd.C_drew ?_))); (case side2 => exact HC0.out); (case side3 => repeat (first | exact (Kd.R_reads' HO469.out).2.2 | (with_reducible refine Kd.C_alloc ?_ _) | (with_reducible refine Kd.C_drewN ?_ _) | (with_reducible refine Kd.C_drew ?_))); (case side4 => exact (Kd.R_reads' HO469.out).2.1); rintro e w15 ⟨v471, rfl, ho0, hb⟩; refine ⟨_, rfl, ?_⟩; have n0_ := Aside0.mk (Kd.R_elder' (by (with_reducible repeat (first | apply Kd.R_alloc | apply Kd.R_drewN | apply Kd.R_drew)); exact HO469.out) (Kd.R_base ho0) hb); have n1_ := Aside0.mk (Kd.R_lower (Kd.R_new' ho0 (Kd.R_lt (by (with_reducible repeat (first | apply Kd.R_alloc | apply Kd.R_drewN | apply Kd.R_drew)); exact HO469.out))) (below_size (by repeat (first | (with_reducible first | exact HB.out | apply below_alloc | apply pw_below_drewN | apply below_drew1) | exact HB.out)))); have n2_ := Aside0.mk (below_step (by repeat (first | (with_reducible first | exact HB.out | apply below_alloc | apply pw_below_drewN | apply below_drew1) | exact HB.out)) hb); clear HO469; clear HB; have HO469 := n0_; have HO472 := n1_; have HB := n2_; clear n0_ n1_ n2_; (try clear hb); (try clear hb2); (try clear hk); (try clear hi); (try clear ho0); obtain ⟨Ao16, co16, eo16⟩ := Kd.R_slice HO472.out; subst eo16))
  go_ret
  exact ⟨_, by first | rfl | (simp [errW_none, errW_some] <;> rfl) | (simp [*, errW_none, errW_some] <;> rfl), by (with_reducible repeat (first | apply Kd.R_alloc | apply Kd.R_drewN | apply Kd.R_drew)); exact Kd.R_mono HO472.out (fun _ hk => trivial), by repeat (first | (with_reducible first | exact HB.out | apply below_alloc | apply pw_below_drewN | apply below_drew1) | exact HB.out)⟩
def haversackref10_Envelope.f (k : Nat) (l0 : List (S37)) : Option (List ByteArray × List ByteArray × (List (S33)) × (List (S33)) × (List (S33)) × (List (S33)) × (List (S33)) × (List (S33)) × List ByteArray × List ByteArray) := (haversackref10_people.f k l0 (⟨#[102, 114, 111, 109]⟩ : ByteArray)).bind fun t477 => ((haversackref10_one.f k l0 (⟨#[100, 97, 116, 101]⟩ : ByteArray)).bind fun t480 => ((haversackref10_one.f k l0 (⟨#[115, 117, 98, 106, 101, 99, 116]⟩ : ByteArray)).bind fun t483 => ((haversackref10_people.f k l0 (⟨#[115, 101, 110, 100, 101, 114]⟩ : ByteArray)).bind fun t486 => ((haversackref10_people.f k l0 (⟨#[114, 101, 112, 108, 121, 45, 116, 111]⟩ : ByteArray)).bind fun t489 => ((haversackref10_people.f k l0 (⟨#[116, 111]⟩ : ByteArray)).bind fun t492 => ((haversackref10_people.f k l0 (⟨#[99, 99]⟩ : ByteArray)).bind fun t495 => ((haversackref10_people.f k l0 (⟨#[98, 99, 99]⟩ : ByteArray)).bind fun t498 => ((haversackref10_one.f k l0 (⟨#[105, 110, 45, 114, 101, 112, 108, 121, 45, 116, 111]⟩ : ByteArray)).bind fun t501 => ((haversackref10_one.f k l0 (⟨#[109, 101, 115, 115, 97, 103, 101, 45, 105, 100]⟩ : ByteArray)).bind fun t504 => (if (t486.length : Int) = 0 then (if (t489.length : Int) = 0 then (some (t480, t483, t477, t477, t477, t492, t495, t498, t501, t504)) else (some (t480, t483, t477, t477, t489, t492, t495, t498, t501, t504))) else (if (t489.length : Int) = 0 then (some (t480, t483, t477, t486, t477, t492, t495, t498, t501, t504)) else (some (t480, t483, t477, t486, t489, t492, t495, t498, t501, t504)))))))))))))
end Go.Proofs.YtkngjdhggcaonaaDoor.PP
