/- YtmpngedfnheilaaDoorMyViewPlays, as far as ViewPlays needs it (prune.py). -/
import Derived.Test.YtmpngedfnheilaaDoorViewPlaysMyRG
import Derived.Test.YtmpngedfnheilaaDoorViewPlaysMyViewT2
import Derived.Test.YtmpngedfnheilaaDoorViewPlaysMyViewW
import Derived.Test.YtmpngedfnheilaaDoorViewPlaysMyViewJ
import Derived.Test.YtmpngedfnheilaaDoorViewPlaysPPx12
import Derived.Deep.Cut
import Derived.Deep.CutRange
import Derived.Deep.CutBlock
namespace Go.Proofs.YtmpngedfnheilaaDoor.PP
open Go.RowKit Go.Proofs.YtmpngedfnheilaaDoorW.PrintWords Go.Proofs.YtmpngedfnheilaaDoorW.PrintLast Go.Proofs.YtmpngedfnheilaaDoorW.PrintMore
open Go.Proofs.YtmpngedfnheilaaDoor.My
set_option linter.unusedVariables false
set_option linter.unusedSimpArgs false
theorem Ev.of_le {α : Type} {f : Nat → Option α} {r : α} (hm : ∀ k, LeO (f k) (f (k + 1))) {k0 : Nat} (h : f k0 = some r) : Ev f r := ⟨k0, fun k hk => by
  induction k with
  | zero => have : k0 = 0 := by omega
            subst this; exact h
  | succ k ih =>
    by_cases e : k0 = k + 1
    · subst e; exact h
    · exact hm k _ (ih (by omega))⟩
theorem same16E (l : List ByteArray) (h : l.length ≤ 9223372036854775807) : Ev (fun k => haversackref16_Same.f k l l) true := by
  obtain ⟨k, hk⟩ := Same16_ev l l h
  rw [decide_eq_true rfl] at hk
  exact Ev.of_le (fun k => haversackref16_Same.mono l l k) hk
theorem same18_l (l : List Tl) (hb : l.length ≤ 9223372036854775807) (hz : ∀ t ∈ l, t.f2.length ≤ 9223372036854775807) : ∀ (n i : Nat), i + n = l.length → Ev (fun k => haversackref18_Same.l0 k l l i) true
  | 0, i, h => Ev.now (fun k => by rw [haversackref18_Same.l0, if_neg (by omega)])
  | n + 1, i, h => by
    refine Ev.go (f := fun k => _) (fun k => by rw [haversackref18_Same.l0, if_pos (by omega), if_pos (by omega), if_pos (by omega), if_pos rfl, if_pos rfl, w64s (by omega)]) ?_
    refine Ev.bd (same16E _ (hz _ (rd_mem65 l i (by omega)))) ?_
    simp only [if_true]
    exact same18_l l hb hz n (i + 1) (by omega)
theorem Same18_ev (l : List Tl) (hb : l.length ≤ 9223372036854775807) (hz : ∀ t ∈ l, t.f2.length ≤ 9223372036854775807) : Ev (fun k => haversackref18_Same.f k l l) true := by
  have := same18_l l hb hz l.length 0 (by omega)
  unfold haversackref18_Same.f
  simp only [if_true]
  exact this
theorem told_bound {w : World} {A : Option Addr} {n : Nat} {l : List Tl} (h : Kd.C k65 w A n l) : l.length ≤ 9223372036854775807 ∧ ∀ t ∈ l, t.f2.length ≤ 9223372036854775807 := by
  have hl := Kd.C_len h
  refine ⟨by have := Kd.C_max h; omega, fun t ht => ?_⟩
  obtain ⟨i, hi, rfl⟩ := List.getElem_of_mem ht
  obtain ⟨_, _, _, _, _, _, _, _, hs⟩ := at_T65 h (i : Int) (by omega) (by omega)
  have e : rd_T65 l i = l[i] := by
    unfold rd_T65
    simp [List.getD_eq_getElem?_getD, List.getElem?_eq_getElem hi]
  rw [e] at hs
  exact Kd.C_max hs
set_option maxHeartbeats 8000000 in
set_option maxRecDepth 100000 in
theorem haversacklaw18_ViewPlays.holds (A0 : Option Addr) (c0 : Nat) (l0 : List Ml) (A1 : Option Addr) (c1 : Nat) (l1 : List Al) (a2 : Int) (w : World) (hr0 : Kd.C k43 w A0 l0.length l0) (hc0 : l0.length ≤ c0) (m0 : l0.length ≤ maxLen) (q0 : ∀ z ∈ l0, Q43 z) (hr1 : Kd.C k33 w A1 l1.length l1) (hc1 : l1.length ≤ c1) (m1 : l1.length ≤ maxLen) (q1 : ∀ z ∈ l1, Q33 z) (w2 : (Lit.int .i64 a2).wf = true) :
    Calls Tryd.prog 5 #[.slice A0 l0.length c0, .slice A1 l1.length c1, .int .i64 a2] w fun e w' => e = .returned (.bool true) ∧ Below w.heap.size w w' := by
  have HR0 := Aside0.mk (And.intro hr0 hc0)
  have HR1 := Aside0.mk (And.intro hr1 hc1)
  have HW2 := Aside0.mk (show -9223372036854775808 ≤ a2 ∧ a2 ≤ 9223372036854775807 from by simp only [Lit.wf, Bool.and_eq_true, decide_eq_true_eq] at w2; exact w2)
  obtain ⟨kf, hk0, hk1, hk2⟩ := kf_all l0 l1 [] q0 q1 (fun z h => by cases h)
  obtain ⟨kg, hg0, hg1⟩ := kfr_all l0 l1 q0 q1
  have HK0 := Aside0.mk hk0
  have HK1 := Aside0.mk hk1
  have HG0 := Aside0.mk hg0
  have HG1 := Aside0.mk hg1
  obtain ⟨kl, bl, hkl⟩ := light_at l0 m0 q0
  obtain ⟨ke, be, hke⟩ := few_at l1 q1
  have HKL := Aside0.mk hkl
  have HKE := Aside0.mk hke
  have HB := Aside0.mk (Below.refl w.heap.size w)
  clear hk0 hk1 hk2 hg0 hg1 hkl hke hr0 hc0 m0 q0 hr1 hc1 m1 q1 w2
  go_enter Tryd.func5, Tryd.ntmps5
  go_wp2_with fail
  refine (haversacklaw18_light.calls kl A0 c0 l0 bl _ HR0.out.1 HR0.out.2 HKL.out).mono ?_
  rintro e w1 ⟨rfl, hb1⟩
  replace HB := Aside0.mk (HB.out.trans hb1)
  clear hb1
  cases bl with
  | false =>
    go_wp2_with fail
    refine (alive_ok _).mono ?_
    rintro e wz ⟨rfl, hbz⟩
    have HBZ := Aside0.mk (HB.out.trans (hbz.mono HB.out.size))
    clear hbz
    go_wp2_with fail
    go_ret
    exact ⟨rfl, HBZ.out⟩
  | true =>
  have L0 := Aside0.mk (light_says kl l0 HKL.out)
  have HQ1 := Aside0.mk (Kd.C_below HR1.out.1 HB.out)
  go_wp2_with fail
  refine (haversacklaw18_few.calls ke A1 c1 l1 be _ HQ1.out HR1.out.2 HKE.out).mono ?_
  rintro e w2 ⟨rfl, hb2⟩
  replace HB := Aside0.mk (HB.out.trans (hb2.mono HB.out.size))
  clear hb2 HQ1
  cases be with
  | false =>
    go_wp2_with fail
    refine (alive_ok _).mono ?_
    rintro e wz ⟨rfl, hbz⟩
    have HBZ := Aside0.mk (HB.out.trans (hbz.mono HB.out.size))
    clear hbz
    go_wp2_with fail
    go_ret
    exact ⟨rfl, HBZ.out⟩
  | true =>
  have L1 := Aside0.mk (few_says ke l1 HKE.out)
  go_wp2_with fail
  obtain ⟨lv, hlv⟩ : ∃ lv, lv = (growL FL (risL l0 0) [] 0).1 := ⟨_, rfl⟩
  obtain ⟨tv, htv⟩ : ∃ tv, tv = (growL FL (risL l0 0) [] 0).2 := ⟨_, rfl⟩
  have HF0 := Aside0.mk (show Ris lv tv ∧ lv.length ≤ 60 from ⟨by rw [hlv, htv]; exact first_ris l0 L0.out, by rw [hlv]; exact first_len l0 L0.out⟩)
  have hn := viewNew_ok FL kf (fun k => k < w.heap.size) A0 c0 l0 w2 (Kd.F_below (Kd.C_F k43_heap HR0.out.1) HB.out) HK0.out (by have := L0.out; omega)
  rw [← hlv, ← htv] at hn
  have hn2 := fun (W : World) (hb : Below w.heap.size w W) => refNew_ok FL kg (fun k => k < w.heap.size) A0 c0 l0 W (Kd.F_below (Kd.C_F k43_heap HR0.out.1) hb) HR0.out.2 HG0.out (by have := L0.out; omega)
  have ge := growR_map FL (risL l0 0) [] 0
  simp only [List.map_nil] at ge
  rw [← hlv, ← htv] at ge
  rw [ge] at hn2
  have HNW := Aside0.mk hn
  have HNR := Aside0.mk hn2
  clear hn hn2 ge hlv htv
  refine HNW.out.mono ?_
  rintro e w3 ⟨g, v, rfl, hv, hb3⟩
  have HV := Aside0.mk (hv.lower HB.out.size)
  replace HB := Aside0.mk (HB.out.trans (hb3.mono HB.out.size))
  clear hv hb3 HNW
  go_wp2_with fail
  refine (HNR.out w3 HB.out).mono ?_
  rintro e w4 ⟨gr, vr, rfl, hv, hb4⟩
  have HRV := Aside0.mk (hv.lower HB.out.size)
  replace HV := Aside0.mk (HV.out.below hb4)
  replace HB := Aside0.mk (HB.out.trans (hb4.mono HB.out.size))
  clear hv hb4 HNR
  go_wp2_with fail
  go_loopg [7, 34] l1.length (fun kq v7 v34 wr => ∃ (x : Int) (i g : Nat) (v : Value) (l : List Pl) (top : Int) (vr : Value), v34 = .int .i64 x ∧ v7 = .pointer (some ⟨g, 0, none⟩) ∧ Aside0 (x = i ∧ i + kq = l1.length ∧ l.length ≤ 60 + 60 * i) ∧ Aside0 (VW w.heap.size wr g v l top) ∧ Aside0 (Ris l top) ∧ Aside0 (RW w.heap.size wr gr vr (l.map toR) top) ∧ Aside0 (Below w.heap.size w wr))
  case atStart => exact ⟨0, 0, g, v, lv, tv, vr, rfl, rfl, ⟨rfl, by omega, by have := HF0.out.2; omega⟩, HV, ⟨HF0.out.1⟩, HRV, HB⟩
  case round =>
    clear HV HRV HB HF0
    obtain ⟨x, i, g, v, l, top, vr, rfl, rfl, HX, HV, HR, HRV, HB⟩ := hrel
    cases gk with
    | zero =>
      have c1b : decide (x < (l1.length : Int)) = false := decide_eq_false (by have := HX.out; omega)
      have HLL := Aside0.mk (show l.length ≤ 10000 by have := HX.out; have := L1.out.1; omega)
      go_wp2_with fail
      refine (refUIDs_ok w.heap.size gr vr (l.map toR) top _ HRV.out (by have := HLL.out; rw [List.length_map]; omega)).mono ?_
      rw [show (l.map toR).map (fun p => p.f0) = us l by unfold us; rw [List.map_map]; rfl]
      rintro e w5 ⟨v0, rfl, ho, hb⟩
      obtain ⟨Au, cu, eo⟩ := Kd.R_slice ho
      subst eo
      have HU := Aside0.mk (show IRow w5 w.heap.size (.slice Au (us l).length cu) (us l) from Kd.R_lower ho HB.out.size)
      replace HV := Aside0.mk (HV.out.below hb)
      replace HRV := Aside0.mk (HRV.out.below hb)
      replace HB := Aside0.mk (HB.out.trans (hb.mono HB.out.size))
      have HUL := Aside0.mk (us_len l)
      clear ho hb
      have TAIL : ∀ (at' last : Int), at' = uidAt l a2 → last = uidAt l (l.length : Int) → True := fun _ _ _ _ => trivial
      clear TAIL
      obtain ⟨ki, hki⟩ := (Ints_ev (us l) (us l) (by have := HLL.out; rw [us_len]; omega)).at
      rw [decide_eq_true rfl] at hki
      have HKI := Aside0.mk hki
      clear hki
      obtain ⟨la, hla⟩ : ∃ la, la = uidAt l (l.length : Int) := ⟨_, rfl⟩
      obtain ⟨aa, haa⟩ : ∃ aa, aa = uidAt l a2 := ⟨_, rfl⟩
      have HLA := Aside0.mk hla
      have HAA := Aside0.mk haa
      have HCR := Aside0.mk (fun (W : World) (hb : Below w5.heap.size w5 W) => Kd.C_below (Kd.R_reads' HU.out).2.2 hb)
      have hci : ∀ i : Int, 0 ≤ i → i < ((us l).length : Int) → ∃ ad, Au = some ad ∧ w5.cell? (ad.add i.toNat) = some (.int .i64 (rd (us l) i)) := fun i h0 h1 => Kd.at_int (Kd.R_reads' HU.out).2.2 i h0 h1
      have hlast : (us l).length ≠ 0 → rd (us l) (((us l).length : Int) - 1) = la := fun h => by
        rw [hla]; unfold uidAt
        rw [us_len] at h ⊢
        rw [if_neg (by omega), show ((l.length : Int) - 1) = ((l.length - 1 : Nat) : Int) by omega]
        have := us_rd l (l.length - 1) (by omega)
        unfold rd
        rw [Int.toNat_natCast, List.getD_eq_getElem?_getD, this]; rfl
      have hask : 1 ≤ a2 → a2 ≤ ((us l).length : Int) → rd (us l) (a2 - 1) = aa := fun h h' => by
        rw [haa]; unfold uidAt
        rw [us_len] at h'
        rw [if_neg (by omega), show (a2 - 1) = (((a2 - 1).toNat : Nat) : Int) by omega]
        have := us_rd l (a2 - 1).toNat (by omega)
        unfold rd
        rw [Int.toNat_natCast, List.getD_eq_getElem?_getD, this]; rfl
      have hask0 : ¬ (1 ≤ a2 ∧ a2 ≤ ((us l).length : Int)) → aa = 0 := fun h => by
        rw [haa]; unfold uidAt
        rw [us_len] at h
        rw [if_pos (by omega)]
      have hlast0 : (us l).length = 0 → la = 0 := fun h => by
        rw [hla]; unfold uidAt
        rw [us_len] at h
        rw [if_pos (by omega)]
      clear hla haa
      have HNB := Aside0.mk (show (us l).length = l.length ∧ (us l).length ≤ 10000 by have := HLL.out; have := HUL.out; omega)
      obtain ⟨j1, hj1⟩ : ∃ j1, wrap64 (a2 - 1) = j1 := ⟨_, rfl⟩
      obtain ⟨j2, hj2⟩ : ∃ j2, wrap64 (((us l).length : Int) - 1) = j2 := ⟨_, rfl⟩
      have hjw1 : IntKind.i64.wrap (a2 - 1) = j1 := (i64_w _).trans hj1
      have hjw2 : IntKind.i64.wrap (((us l).length : Int) - 1) = j2 := (i64_w _).trans hj2
      have hcase : (1 ≤ a2 ∧ a2 ≤ ((us l).length : Int) ∧ 0 < (us l).length) ∨ (¬ (1 ≤ a2 ∧ a2 ≤ ((us l).length : Int)) ∧ 0 < (us l).length) ∨ (¬ (1 ≤ a2 ∧ a2 ≤ ((us l).length : Int)) ∧ (us l).length = 0) := by omega
      have HJ1 := Aside0.mk (show 1 ≤ a2 → a2 ≤ ((us l).length : Int) → j1 = a2 - 1 from fun h h' => by have := HW2.out; rw [← hj1]; unfold wrap64; omega)
      have HJ2 := Aside0.mk (show 0 < (us l).length → j2 = ((us l).length : Int) - 1 from fun h => by have := HNB.out; rw [← hj2]; unfold wrap64; omega)
      have HCI := Aside0.mk hci
      have HLS := Aside0.mk hlast
      have HAS := Aside0.mk hask
      have HAS0 := Aside0.mk hask0
      have HLS0 := Aside0.mk hlast0
      clear hci hlast hask hask0 hlast0 hj1 hj2
      have HVZ := Aside0.mk HV.out
      have TAIL : ∀ (P : Prop), P → P := fun _ h => h
      clear TAIL
      rcases hcase with ⟨s1, s2, s3⟩ | ⟨s1, s3⟩ | ⟨s1, s3⟩
      · have t1 := decide_eq_true s1
        have t2 := decide_eq_true s2
        have t3 : decide ((0 : Int) < ((us l).length : Int)) = true := decide_eq_true (by omega)
        have t5 := eq_true (show 0 < (us l).length by omega)
        obtain ⟨ad, rfl, hx1⟩ := HCI.out j1 (by have := HJ1.out s1 s2; omega) (by have := HJ1.out s1 s2; omega)
        obtain ⟨ad2, e2, hx2⟩ := HCI.out j2 (by have := HJ2.out s3; omega) (by have := HJ2.out s3; omega)
        cases e2
        rw [HJ1.out s1 s2, HAS.out s1 s2, ← HJ1.out s1 s2] at hx1
        rw [HJ2.out s3, HLS.out (by omega), ← HJ2.out s3] at hx2
        have p1 := eq_true (show 0 ≤ j1 by have := HJ1.out s1 s2; omega)
        have p2 := eq_true (show j1 < ((us l).length : Int) by have := HJ1.out s1 s2; omega)
        have p3 := eq_true (show 0 ≤ j2 by have := HJ2.out s3; omega)
        have p4 := eq_true (show j2 < ((us l).length : Int) by have := HJ2.out s3; omega)
        clear s1 s2 s3
        go_wp2_with fail
        refine (viewUIDs_ok w.heap.size g v l top _ HVZ.out (by have := HLL.out; omega)).mono ?_
        rintro e w6 ⟨v6, rfl, ho, hb⟩
        have HU6 := Aside0.mk (show Kd.R (Kd.int .i64) 3 w6 w5.heap.size (fun _ => True) v6 (us l) from ho)
        obtain ⟨A6, c6, e6⟩ := Kd.R_slice HU6.out
        subst e6
        have HB6 := Aside0.mk hb
        clear ho hb
        go_wp2_with fail
        refine (haversackref18_Ints.calls ki A6 c6 (us l) _ cu (us l) true _ (Kd.R_reads' HU6.out).2.2 (Kd.R_reads' HU6.out).2.1 (HCR.out _ HB6.out) (Kd.R_reads' HU.out).2.1 HKI.out).mono ?_
        rintro e w7 ⟨rfl, n7, rfl⟩
        have HB7 := Aside0.mk (pw_below_drewN HB6.out n7)
        generalize w6.drewN n7 = w7 at HB7 ⊢
        clear HU6 HB6
        go_wp2_with fail
        refine (viewCount_ok w.heap.size g v l top _ (HVZ.out.below HB7.out)).mono ?_
        rintro e w8 ⟨rfl, n8, rfl⟩
        have HB8 := Aside0.mk (pw_below_drewN HB7.out n8)
        generalize w7.drewN n8 = w8 at HB8 ⊢
        have hcnt : ((l.length : Int) == ((us l).length : Int)) = true := by rw [HNB.out.1]; exact beq_self_eq_true _
        clear HB7
        go_wp2_with fail
        refine (viewUID_ok w.heap.size g v l top a2 _ (HVZ.out.below HB8.out) HW2.out).mono ?_
        rw [← HAA.out]
        rintro e w9 ⟨rfl, n9, rfl⟩
        have HB9 := Aside0.mk (pw_below_drewN HB8.out n9)
        generalize w8.drewN n9 = w9 at HB9 ⊢
        clear HB8 hcnt
        go_wp2_with fail
        refine (viewPlace_ok w.heap.size g v l top a2 _ (HVZ.out.below HB9.out) HR.out).mono ?_
        rintro e w10 ⟨n10, rfl, hn, hb⟩
        have HB10 := Aside0.mk (HB9.out.trans (hb.mono HB9.out.size))
        have HN := Aside0.mk hn
        clear hn hb HB9
        go_wp2_with fail
        refine (refPlace_ok w.heap.size gr vr (l.map toR) top a2 _ (HRV.out.below HB10.out) (by have := HLL.out; rw [List.length_map]; omega)).mono ?_
        rintro e w11 ⟨n11, rfl, hn, hb⟩
        obtain rfl := place_same HR.out HN.out hn
        have HB11 := Aside0.mk (HB10.out.trans (hb.mono HB10.out.size))
        clear hn hb HB10
        go_wp2_with fail
        refine (viewMax_ok w.heap.size g v l top _ (HVZ.out.below HB11.out) (by have := HLL.out; omega)).mono ?_
        rw [← HLA.out]
        rintro e w12 ⟨rfl, n12, rfl⟩
        have HB12 := Aside0.mk (pw_below_drewN HB11.out n12)
        generalize w11.drewN n12 = w12 at HB12 ⊢
        clear HB11
        go_wp2_with fail
        refine (alive_ok _).mono ?_
        rintro e wz ⟨rfl, hbz⟩
        have HBZ := Aside0.mk (HB.out.trans ((HB12.out.trans (hbz.mono HB12.out.size)).mono HB.out.size))
        clear hbz
        go_wp2_with fail
        go_ret
        exact ⟨rfl, HBZ.out⟩
      · have t1 : decide (1 ≤ a2) = true → decide (a2 ≤ ((us l).length : Int)) = false := fun h => decide_eq_false (fun h2 => s1 ⟨of_decide_eq_true h, h2⟩)
        have t3 : decide ((0 : Int) < ((us l).length : Int)) = true := decide_eq_true (by omega)
        have t5 := eq_true (show 0 < (us l).length by omega)
        obtain ⟨ad, rfl, hx2⟩ := HCI.out j2 (by have := HJ2.out s3; omega) (by have := HJ2.out s3; omega)
        rw [HJ2.out s3, HLS.out (by omega), ← HJ2.out s3] at hx2
        have p3 := eq_true (show 0 ≤ j2 by have := HJ2.out s3; omega)
        have p4 := eq_true (show j2 < ((us l).length : Int) by have := HJ2.out s3; omega)
        have h0 := HAS0.out s1
        subst h0
        clear s1 s3
        cases hb1 : decide (1 ≤ a2) with
        | true =>
          have t2 := t1 hb1
          clear t1
          go_wp2_with fail
          refine (viewUIDs_ok w.heap.size g v l top _ HVZ.out (by have := HLL.out; omega)).mono ?_
          rintro e w6 ⟨v6, rfl, ho, hb⟩
          have HU6 := Aside0.mk (show Kd.R (Kd.int .i64) 3 w6 w5.heap.size (fun _ => True) v6 (us l) from ho)
          obtain ⟨A6, c6, e6⟩ := Kd.R_slice HU6.out
          subst e6
          have HB6 := Aside0.mk hb
          clear ho hb
          go_wp2_with fail
          refine (haversackref18_Ints.calls ki A6 c6 (us l) _ cu (us l) true _ (Kd.R_reads' HU6.out).2.2 (Kd.R_reads' HU6.out).2.1 (HCR.out _ HB6.out) (Kd.R_reads' HU.out).2.1 HKI.out).mono ?_
          rintro e w7 ⟨rfl, n7, rfl⟩
          have HB7 := Aside0.mk (pw_below_drewN HB6.out n7)
          generalize w6.drewN n7 = w7 at HB7 ⊢
          clear HU6 HB6
          go_wp2_with fail
          refine (viewCount_ok w.heap.size g v l top _ (HVZ.out.below HB7.out)).mono ?_
          rintro e w8 ⟨rfl, n8, rfl⟩
          have HB8 := Aside0.mk (pw_below_drewN HB7.out n8)
          generalize w7.drewN n8 = w8 at HB8 ⊢
          have hcnt : ((l.length : Int) == ((us l).length : Int)) = true := by rw [HNB.out.1]; exact beq_self_eq_true _
          clear HB7
          go_wp2_with fail
          refine (viewUID_ok w.heap.size g v l top a2 _ (HVZ.out.below HB8.out) HW2.out).mono ?_
          rw [← HAA.out]
          rintro e w9 ⟨rfl, n9, rfl⟩
          have HB9 := Aside0.mk (pw_below_drewN HB8.out n9)
          generalize w8.drewN n9 = w9 at HB9 ⊢
          clear HB8 hcnt
          go_wp2_with fail
          refine (viewPlace_ok w.heap.size g v l top a2 _ (HVZ.out.below HB9.out) HR.out).mono ?_
          rintro e w10 ⟨n10, rfl, hn, hb⟩
          have HB10 := Aside0.mk (HB9.out.trans (hb.mono HB9.out.size))
          have HN := Aside0.mk hn
          clear hn hb HB9
          go_wp2_with fail
          refine (refPlace_ok w.heap.size gr vr (l.map toR) top a2 _ (HRV.out.below HB10.out) (by have := HLL.out; rw [List.length_map]; omega)).mono ?_
          rintro e w11 ⟨n11, rfl, hn, hb⟩
          obtain rfl := place_same HR.out HN.out hn
          have HB11 := Aside0.mk (HB10.out.trans (hb.mono HB10.out.size))
          clear hn hb HB10
          go_wp2_with fail
          refine (viewMax_ok w.heap.size g v l top _ (HVZ.out.below HB11.out) (by have := HLL.out; omega)).mono ?_
          rw [← HLA.out]
          rintro e w12 ⟨rfl, n12, rfl⟩
          have HB12 := Aside0.mk (pw_below_drewN HB11.out n12)
          generalize w11.drewN n12 = w12 at HB12 ⊢
          clear HB11
          go_wp2_with fail
          refine (alive_ok _).mono ?_
          rintro e wz ⟨rfl, hbz⟩
          have HBZ := Aside0.mk (HB.out.trans ((HB12.out.trans (hbz.mono HB12.out.size)).mono HB.out.size))
          clear hbz
          go_wp2_with fail
          go_ret
          exact ⟨rfl, HBZ.out⟩
        | false =>
          clear t1
          go_wp2_with fail
          refine (viewUIDs_ok w.heap.size g v l top _ HVZ.out (by have := HLL.out; omega)).mono ?_
          rintro e w6 ⟨v6, rfl, ho, hb⟩
          have HU6 := Aside0.mk (show Kd.R (Kd.int .i64) 3 w6 w5.heap.size (fun _ => True) v6 (us l) from ho)
          obtain ⟨A6, c6, e6⟩ := Kd.R_slice HU6.out
          subst e6
          have HB6 := Aside0.mk hb
          clear ho hb
          go_wp2_with fail
          refine (haversackref18_Ints.calls ki A6 c6 (us l) _ cu (us l) true _ (Kd.R_reads' HU6.out).2.2 (Kd.R_reads' HU6.out).2.1 (HCR.out _ HB6.out) (Kd.R_reads' HU.out).2.1 HKI.out).mono ?_
          rintro e w7 ⟨rfl, n7, rfl⟩
          have HB7 := Aside0.mk (pw_below_drewN HB6.out n7)
          generalize w6.drewN n7 = w7 at HB7 ⊢
          clear HU6 HB6
          go_wp2_with fail
          refine (viewCount_ok w.heap.size g v l top _ (HVZ.out.below HB7.out)).mono ?_
          rintro e w8 ⟨rfl, n8, rfl⟩
          have HB8 := Aside0.mk (pw_below_drewN HB7.out n8)
          generalize w7.drewN n8 = w8 at HB8 ⊢
          have hcnt : ((l.length : Int) == ((us l).length : Int)) = true := by rw [HNB.out.1]; exact beq_self_eq_true _
          clear HB7
          go_wp2_with fail
          refine (viewUID_ok w.heap.size g v l top a2 _ (HVZ.out.below HB8.out) HW2.out).mono ?_
          rw [← HAA.out]
          rintro e w9 ⟨rfl, n9, rfl⟩
          have HB9 := Aside0.mk (pw_below_drewN HB8.out n9)
          generalize w8.drewN n9 = w9 at HB9 ⊢
          clear HB8 hcnt
          go_wp2_with fail
          refine (viewPlace_ok w.heap.size g v l top a2 _ (HVZ.out.below HB9.out) HR.out).mono ?_
          rintro e w10 ⟨n10, rfl, hn, hb⟩
          have HB10 := Aside0.mk (HB9.out.trans (hb.mono HB9.out.size))
          have HN := Aside0.mk hn
          clear hn hb HB9
          go_wp2_with fail
          refine (refPlace_ok w.heap.size gr vr (l.map toR) top a2 _ (HRV.out.below HB10.out) (by have := HLL.out; rw [List.length_map]; omega)).mono ?_
          rintro e w11 ⟨n11, rfl, hn, hb⟩
          obtain rfl := place_same HR.out HN.out hn
          have HB11 := Aside0.mk (HB10.out.trans (hb.mono HB10.out.size))
          clear hn hb HB10
          go_wp2_with fail
          refine (viewMax_ok w.heap.size g v l top _ (HVZ.out.below HB11.out) (by have := HLL.out; omega)).mono ?_
          rw [← HLA.out]
          rintro e w12 ⟨rfl, n12, rfl⟩
          have HB12 := Aside0.mk (pw_below_drewN HB11.out n12)
          generalize w11.drewN n12 = w12 at HB12 ⊢
          clear HB11
          go_wp2_with fail
          refine (alive_ok _).mono ?_
          rintro e wz ⟨rfl, hbz⟩
          have HBZ := Aside0.mk (HB.out.trans ((HB12.out.trans (hbz.mono HB12.out.size)).mono HB.out.size))
          clear hbz
          go_wp2_with fail
          go_ret
          exact ⟨rfl, HBZ.out⟩
      · have t3 : decide ((0 : Int) < ((us l).length : Int)) = false := decide_eq_false (by omega)
        have t5 := eq_false (show ¬ 0 < (us l).length by omega)
        have h0 := HAS0.out s1
        subst h0
        have h1 := HLS0.out s3
        subst h1
        have t1 : decide (1 ≤ a2) = true → decide (a2 ≤ ((us l).length : Int)) = false := fun h => decide_eq_false (fun h2 => s1 ⟨of_decide_eq_true h, h2⟩)
        clear s1 s3
        cases hb1 : decide (1 ≤ a2) with
        | true =>
          have t2 := t1 hb1
          clear t1
          go_wp2_with fail
          refine (viewUIDs_ok w.heap.size g v l top _ HVZ.out (by have := HLL.out; omega)).mono ?_
          rintro e w6 ⟨v6, rfl, ho, hb⟩
          have HU6 := Aside0.mk (show Kd.R (Kd.int .i64) 3 w6 w5.heap.size (fun _ => True) v6 (us l) from ho)
          obtain ⟨A6, c6, e6⟩ := Kd.R_slice HU6.out
          subst e6
          have HB6 := Aside0.mk hb
          clear ho hb
          go_wp2_with fail
          refine (haversackref18_Ints.calls ki A6 c6 (us l) _ cu (us l) true _ (Kd.R_reads' HU6.out).2.2 (Kd.R_reads' HU6.out).2.1 (HCR.out _ HB6.out) (Kd.R_reads' HU.out).2.1 HKI.out).mono ?_
          rintro e w7 ⟨rfl, n7, rfl⟩
          have HB7 := Aside0.mk (pw_below_drewN HB6.out n7)
          generalize w6.drewN n7 = w7 at HB7 ⊢
          clear HU6 HB6
          go_wp2_with fail
          refine (viewCount_ok w.heap.size g v l top _ (HVZ.out.below HB7.out)).mono ?_
          rintro e w8 ⟨rfl, n8, rfl⟩
          have HB8 := Aside0.mk (pw_below_drewN HB7.out n8)
          generalize w7.drewN n8 = w8 at HB8 ⊢
          have hcnt : ((l.length : Int) == ((us l).length : Int)) = true := by rw [HNB.out.1]; exact beq_self_eq_true _
          clear HB7
          go_wp2_with fail
          refine (viewUID_ok w.heap.size g v l top a2 _ (HVZ.out.below HB8.out) HW2.out).mono ?_
          rw [← HAA.out]
          rintro e w9 ⟨rfl, n9, rfl⟩
          have HB9 := Aside0.mk (pw_below_drewN HB8.out n9)
          generalize w8.drewN n9 = w9 at HB9 ⊢
          clear HB8 hcnt
          go_wp2_with fail
          refine (viewPlace_ok w.heap.size g v l top a2 _ (HVZ.out.below HB9.out) HR.out).mono ?_
          rintro e w10 ⟨n10, rfl, hn, hb⟩
          have HB10 := Aside0.mk (HB9.out.trans (hb.mono HB9.out.size))
          have HN := Aside0.mk hn
          clear hn hb HB9
          go_wp2_with fail
          refine (refPlace_ok w.heap.size gr vr (l.map toR) top a2 _ (HRV.out.below HB10.out) (by have := HLL.out; rw [List.length_map]; omega)).mono ?_
          rintro e w11 ⟨n11, rfl, hn, hb⟩
          obtain rfl := place_same HR.out HN.out hn
          have HB11 := Aside0.mk (HB10.out.trans (hb.mono HB10.out.size))
          clear hn hb HB10
          go_wp2_with fail
          refine (viewMax_ok w.heap.size g v l top _ (HVZ.out.below HB11.out) (by have := HLL.out; omega)).mono ?_
          rw [← HLA.out]
          rintro e w12 ⟨rfl, n12, rfl⟩
          have HB12 := Aside0.mk (pw_below_drewN HB11.out n12)
          generalize w11.drewN n12 = w12 at HB12 ⊢
          clear HB11
          go_wp2_with fail
          refine (alive_ok _).mono ?_
          rintro e wz ⟨rfl, hbz⟩
          have HBZ := Aside0.mk (HB.out.trans ((HB12.out.trans (hbz.mono HB12.out.size)).mono HB.out.size))
          clear hbz
          go_wp2_with fail
          go_ret
          exact ⟨rfl, HBZ.out⟩
        | false =>
          clear t1
          go_wp2_with fail
          refine (viewUIDs_ok w.heap.size g v l top _ HVZ.out (by have := HLL.out; omega)).mono ?_
          rintro e w6 ⟨v6, rfl, ho, hb⟩
          have HU6 := Aside0.mk (show Kd.R (Kd.int .i64) 3 w6 w5.heap.size (fun _ => True) v6 (us l) from ho)
          obtain ⟨A6, c6, e6⟩ := Kd.R_slice HU6.out
          subst e6
          have HB6 := Aside0.mk hb
          clear ho hb
          go_wp2_with fail
          refine (haversackref18_Ints.calls ki A6 c6 (us l) _ cu (us l) true _ (Kd.R_reads' HU6.out).2.2 (Kd.R_reads' HU6.out).2.1 (HCR.out _ HB6.out) (Kd.R_reads' HU.out).2.1 HKI.out).mono ?_
          rintro e w7 ⟨rfl, n7, rfl⟩
          have HB7 := Aside0.mk (pw_below_drewN HB6.out n7)
          generalize w6.drewN n7 = w7 at HB7 ⊢
          clear HU6 HB6
          go_wp2_with fail
          refine (viewCount_ok w.heap.size g v l top _ (HVZ.out.below HB7.out)).mono ?_
          rintro e w8 ⟨rfl, n8, rfl⟩
          have HB8 := Aside0.mk (pw_below_drewN HB7.out n8)
          generalize w7.drewN n8 = w8 at HB8 ⊢
          have hcnt : ((l.length : Int) == ((us l).length : Int)) = true := by rw [HNB.out.1]; exact beq_self_eq_true _
          clear HB7
          go_wp2_with fail
          refine (viewUID_ok w.heap.size g v l top a2 _ (HVZ.out.below HB8.out) HW2.out).mono ?_
          rw [← HAA.out]
          rintro e w9 ⟨rfl, n9, rfl⟩
          have HB9 := Aside0.mk (pw_below_drewN HB8.out n9)
          generalize w8.drewN n9 = w9 at HB9 ⊢
          clear HB8 hcnt
          go_wp2_with fail
          refine (viewPlace_ok w.heap.size g v l top a2 _ (HVZ.out.below HB9.out) HR.out).mono ?_
          rintro e w10 ⟨n10, rfl, hn, hb⟩
          have HB10 := Aside0.mk (HB9.out.trans (hb.mono HB9.out.size))
          have HN := Aside0.mk hn
          clear hn hb HB9
          go_wp2_with fail
          refine (refPlace_ok w.heap.size gr vr (l.map toR) top a2 _ (HRV.out.below HB10.out) (by have := HLL.out; rw [List.length_map]; omega)).mono ?_
          rintro e w11 ⟨n11, rfl, hn, hb⟩
          obtain rfl := place_same HR.out HN.out hn
          have HB11 := Aside0.mk (HB10.out.trans (hb.mono HB10.out.size))
          clear hn hb HB10
          go_wp2_with fail
          refine (viewMax_ok w.heap.size g v l top _ (HVZ.out.below HB11.out) (by have := HLL.out; omega)).mono ?_
          rw [← HLA.out]
          rintro e w12 ⟨rfl, n12, rfl⟩
          have HB12 := Aside0.mk (pw_below_drewN HB11.out n12)
          generalize w11.drewN n12 = w12 at HB12 ⊢
          clear HB11
          go_wp2_with fail
          refine (alive_ok _).mono ?_
          rintro e wz ⟨rfl, hbz⟩
          have HBZ := Aside0.mk (HB.out.trans ((HB12.out.trans (hbz.mono HB12.out.size)).mono HB.out.size))
          clear hbz
          go_wp2_with fail
          go_ret
          exact ⟨rfl, HBZ.out⟩
    | succ k1 =>
      have q1 : x < (l1.length : Int) := by have := HX.out; omega
      have q0 : 0 ≤ x := by have := HX.out; omega
      have c1b : decide (x < (l1.length : Int)) = true := decide_eq_true q1
      obtain ⟨ad, B1, d1, B3, d3, rfl, hx0, hx1, hx2, hx3, hl1, hi1, hl3, hi3⟩ := at_T33 HR1.out.1 x q0 q1
      have hmem : rd_T33 l1 x ∈ l1 := by
        have := rd_mem33 l1 i (by have := HX.out; omega)
        rwa [show (i : Int) = x by have := HX.out; omega] at this
      have hK := HK1.out _ hmem
      have hG := HG1.out _ hmem
      have hLA := L1.out.2 _ hmem
      replace hx0 := (HB.out.cell (World.block_lt_of_cell? w _ hx0)).trans hx0
      replace hx1 := (HB.out.cell (World.block_lt_of_cell? w _ hx1)).trans hx1
      replace hx2 := (HB.out.cell (World.block_lt_of_cell? w _ hx2)).trans hx2
      replace hx3 := (HB.out.cell (World.block_lt_of_cell? w _ hx3)).trans hx3
      have q0b := eq_true q0
      have q1b := eq_true q1
      clear q0 q1 hmem
      generalize rd_T33 l1 x = a at hx0 hx1 hx2 hx3 hl1 hi1 hl3 hi3 hK hG hLA
      have HKA := Aside0.mk hK
      have HGA := Aside0.mk hG
      have HLA := Aside0.mk hLA
      have HA1 := Aside0.mk (And.intro hl1 (Kd.C_F k43_heap hi1))
      have HA3 := Aside0.mk (And.intro hl3 hi3)
      clear hl1 hi1 hl3 hi3 hK hG hLA
      obtain ⟨x1, hxx1⟩ : ∃ x1, wrap64 (x + 1) = x1 := ⟨_, rfl⟩
      have HX1 := Aside0.mk (show x1 = x + 1 by have := HX.out; have := L1.out; rw [← hxx1]; unfold wrap64; omega)
      have hxw : IntKind.i64.wrap (x + 1) = x1 := (i64_w _).trans hxx1
      clear hxx1
      go_upto_region 9 with fail
      obtain ⟨W5, hW5⟩ : ∃ W5, W5 = wr.alloc (.cells (acs a B1 d1 B3 d3).toArray 33) := ⟨_, rfl⟩
      rw [← hW5]
      have hblk : W5.heap[wr.heap.size]? = some (.cells (acs a B1 d1 B3 d3).toArray 33 (0, 0)) := by rw [hW5]; exact blk_new _ _
      have hb5 : Below wr.heap.size wr W5 := by rw [hW5]; exact below_alloc (Below.refl _ _) _
      have HV5 := Aside0.mk (HV.out.below hb5)
      have HRV5 := Aside0.mk (HRV.out.below hb5)
      replace HB := Aside0.mk (HB.out.trans (hb5.mono HB.out.size))
      have HAB := Aside0.mk (show w.heap.size ≤ wr.heap.size by have := HV.out.lt; have := HV.out.ge; omega)
      clear hx0 hx1 hx2 hx3 hW5 HV HRV hb5
      generalize wr.heap.size = aB at hblk HAB ⊢
      have HBK := Aside0.mk hblk
      have h0 := (blk_cell hblk 0).trans (show _ = some (Value.int .i64 a.f0) from rfl)
      have h1 := (blk_cell hblk 1).trans (show _ = some (Value.slice B1 a.f1.length d1) from rfl)
      have h2 := (blk_cell hblk 2).trans (show _ = some (Value.int .i64 a.f2) from rfl)
      have h3 := (blk_cell hblk 3).trans (show _ = some (Value.slice B3 a.f3.length d3) from rfl)
      clear hblk
      have HSZ := Aside0.mk (show l.length + a.f1.length ≤ 10000 by have := HX.out; have := HLA.out; have := L1.out.1; omega)
      by_cases c3 : a.f0 = 3
      · -- @CUT copy
        have e3 : (a.f0 == 3) = true := beq_iff_eq.mpr c3
        clear c3
        go_wp2_with fail
        refine (viewCopy_ok w.heap.size g v l top _ HV5.out (by have := HSZ.out; omega)).mono ?_
        rintro e w6 ⟨g', v', rfl, hv, hb⟩
        have HC6 := Aside0.mk hv
        have HV6 := Aside0.mk (HV5.out.below hb)
        have HRV6 := Aside0.mk (HRV5.out.below hb)
        have hbk6 := (hb.block aB (blk_lt HBK.out)).trans HBK.out
        replace HB := Aside0.mk (HB.out.trans (hb.mono HB.out.size))
        have HLT := Aside0.mk (show g < W5.heap.size ∧ (∀ k, v.ownBlock = some k → k < W5.heap.size) ∧ w.heap.size ≤ W5.heap.size from ⟨HV5.out.lt, fun k hk => Kd.N_lt HV5.out.row k hk, by have := HV5.out.lt; have := HV5.out.ge; omega⟩)
        clear hv hb h0 h1 h2 h3 HV5 HRV5 HBK
        have h1 := (blk_cell hbk6 1).trans (show _ = some (Value.slice B1 a.f1.length d1) from rfl)
        clear hbk6
        go_wp2_with fail
        refine (viewSyncK_ok FL kf w.heap.size g v l top false (fun k => k < w.heap.size) B1 d1 a.f1 _ HV6.out HR.out (Kd.F_below HA1.out.2 HB.out) (fun k hk _ hs => by
          rcases hs with rfl | hs
          · have := HV6.out.ge; omega
          · have := Kd.N_base HV6.out.row k hs; omega) HKA.out.2 (by have := HSZ.out; omega) (VS g v) (fun k h => h)).mono ?_
        rintro e w7 ⟨v2, vo, rfl, ho, hv, hb, hk⟩
        have HV7 := Aside0.mk ((HC6.out.keep (hk.2 g' HC6.out.lt (fun h => by
          rcases h with e | h
          · have := HC6.out.ge; have := HLT.out.1; omega
          · have := HC6.out.ge; have := HLT.out.2.1 _ h; omega)) (fun k hk' => hk.2 k (Kd.N_lt HC6.out.row k hk') (fun h => by
          have hb' := Kd.N_base HC6.out.row k hk'
          rcases h with e | h
          · have := HLT.out.1; omega
          · have := HLT.out.2.1 _ h; omega)) (fun k hk' => (HV6.out.chg hk).t9 (by decide) hk')).lower HLT.out.2.2)
        have HRV7 := Aside0.mk (HRV6.out.of_chg (HV6.out.chg hk) (by decide) (by decide) (by decide))
        replace HB := Aside0.mk (HB.out.trans hb)
        clear ho hv hb hk h1 HV6 HC6 HRV6
        go_wp2_with fail
        go_roundg k1
        case measure => omega
        case rel => exact ⟨x1, i + 1, g', v', l, top, vr, rfl, rfl, ⟨by have := HX.out; have := HX1.out; omega⟩, HV7, HR, HRV7, HB⟩
      · have e3 : (a.f0 == 3) = false := beq_eq_false_iff_ne.mpr c3
        clear c3
        go_wp2_with fail
        refine (do_ok kf w.heap.size g v l top a (fun k => k < w.heap.size) B1 d1 B3 d3 _ HV5.out HR.out (Kd.F_below HA1.out.2 HB.out) (fun k hk _ hs => by
          rcases hs with rfl | hs
          · have := HV5.out.ge; omega
          · have := Kd.N_base HV5.out.row k hs; omega) HKA.out.2 (Kd.C_below HA3.out.2 HB.out) HA3.out.1 HKA.out.1 (by have := HSZ.out; omega)).mono ?_
        rintro e w6 ⟨v', vo, l', top', out, rfl, hd, ho, hv, hb, hc⟩
        have HD := Aside0.mk hd
        have HFC := Aside0.mk (hd.facts HR.out (by have := HSZ.out; omega))
        have HV6 := Aside0.mk hv
        have HRV6 := Aside0.mk (HRV5.out.of_chg hc (by decide) (by decide) (by decide))
        have hbk6 := hc.cells HBK.out (by decide)
        replace HB := Aside0.mk (HB.out.trans hb)
        obtain ⟨Ao, co, eo, _, _⟩ := ho.slice
        subst eo
        have HO := Aside0.mk (ho.lower (show w.heap.size ≤ W5.heap.size by have := HV5.out.lt; have := HV5.out.ge; omega))
        clear hd ho hv hb hc h0 h1 h2 h3 HV5 HRV5 HBK
        have h0 := (blk_cell hbk6 0).trans (show _ = some (Value.int .i64 a.f0) from rfl)
        have h1 := (blk_cell hbk6 1).trans (show _ = some (Value.slice B1 a.f1.length d1) from rfl)
        have h2 := (blk_cell hbk6 2).trans (show _ = some (Value.int .i64 a.f2) from rfl)
        have h3 := (blk_cell hbk6 3).trans (show _ = some (Value.slice B3 a.f3.length d3) from rfl)
        clear hbk6
        go_upto_if 55 with fail
        go_cut [13, 55] from 56 to 76 (fun v13 _ wc => ∃ vr' : Value, Aside0 (TRow wc w.heap.size v13 out) ∧ Aside0 (TRow wc w.heap.size (.slice Ao out.length co) out) ∧ Aside0 (VW w.heap.size wc g v' l' top') ∧ Aside0 (RW w.heap.size wc gr vr' (l'.map toR) top') ∧ Aside0 (Below w.heap.size w wc))
        case first =>
          by_cases c2 : a.f0 = 2
          · have e2 : (a.f0 == 2) = true := beq_iff_eq.mpr c2
            have C2 := Aside0.mk c2
            clear c2
            go_wp2_with fail
            refine (refNote_ok FL kg w.heap.size gr vr (l.map toR) top a.f2 B3 d3 a.f3 _ HRV6.out (by have := HSZ.out; rw [List.length_map]; omega) (Kd.C_below HA3.out.2 HB.out) HA3.out.1 HGA.out.1).mono ?_
            rintro e w8 ⟨rfl, n, hn, hv8, hb8, hk8⟩
            obtain ⟨hout, htop, m, hm, hl'⟩ := HD.out.note C2.out
            have hnm := place_same HR.out hm hn
            have HRV8 := Aside0.mk (show RW w.heap.size w8 gr vr (l'.map toR) top' by
              rw [htop, hl', ← hnm]
              split
              · rename_i h; rw [if_pos h] at hv8; exact hv8
              · rename_i h; rw [if_neg h] at hv8; rw [List.map_set]; exact hv8)
            have hc8 := HRV6.out.chg hk8
            have HV8 := Aside0.mk (HV6.out.of_chg hc8 (by decide) (by decide) (by decide))
            have HO8 := Aside0.mk (TN.chg HO.out hc8 (by decide) (by decide))
            have HB8 := Aside0.mk (HB.out.trans hb8)
            have HOUT := Aside0.mk hout
            clear hn hv8 hb8 hk8 hout htop hm hl' hnm hc8
            go_wp2_with fail
            go_meet
            case rel => exact ⟨vr, ⟨by rw [HOUT.out]; exact TN.nil _ _ _ _⟩, HO8, HV8, HRV8, HB8⟩
          · have e2 : (a.f0 == 2) = false := beq_eq_false_iff_ne.mpr c2
            have HSY := Aside0.mk (fun (q : Bool) (hq : a.f0 = 0 ∨ a.f0 = 1) (hqq : q = decide (a.f0 = 1)) => (by
              have h := refSync_ok FL kg w.heap.size gr vr (l.map toR) top q (fun k => k < w.heap.size) B1 d1 a.f1 w6 HRV6.out HA1.out.1 (Kd.F_below HA1.out.2 HB.out) (fun k hk _ hs => by
                rcases hs with rfl | hs
                · have := HRV6.out.ge; omega
                · have := Kd.N_base HRV6.out.row k hs; omega) HGA.out.2 (by have := HSZ.out; rw [List.length_map]; omega)
              rw [syncR_map, hqq, HD.out.sync hq, ← hqq] at h
              exact h : Calls Tryd.prog 22 #[.pointer (some ⟨gr, 0, none⟩), .bool q, .slice B1 a.f1.length d1] w6 fun e w' => ∃ (v2 vo : Value), e = .returned vo ∧ TRow w' w6.heap.size vo out ∧ RW w.heap.size w' gr v2 (l'.map toR) top' ∧ Below w.heap.size w6 w' ∧ Chg TR w6 w'))
            by_cases c0 : a.f0 = 0
            · have e0 : (a.f0 == 0) = true := beq_iff_eq.mpr c0
              have e1 : (a.f0 == 1) = false := beq_eq_false_iff_ne.mpr (by omega)
              have HS := Aside0.mk (HSY.out false (.inl c0) (decide_eq_false (by omega)).symm)
              clear c0 c2 HSY
              go_wp2_with fail
              refine HS.out.mono ?_
              rintro e w8 ⟨vr2, vo2, rfl, ho2, hv8, hb8, hc8⟩
              have HRV8 := Aside0.mk hv8
              have HV8 := Aside0.mk (HV6.out.of_chg hc8 (by decide) (by decide) (by decide))
              have HO8 := Aside0.mk (TN.chg HO.out hc8 (by decide) (by decide))
              have HY8 := Aside0.mk (ho2.lower HB.out.size)
              have HB8 := Aside0.mk (HB.out.trans hb8)
              clear ho2 hv8 hb8 hc8
              go_wp2_with fail
              go_meet
              case rel => exact ⟨vr2, HY8, HO8, HV8, HRV8, HB8⟩
            · by_cases c1 : a.f0 = 1
              · have e0 : (a.f0 == 0) = false := beq_eq_false_iff_ne.mpr (by omega)
                have e1 : (a.f0 == 1) = true := beq_iff_eq.mpr c1
                have HS := Aside0.mk (HSY.out true (.inr c1) (decide_eq_true c1).symm)
                clear c0 c1 c2 HSY
                go_wp2_with fail
                refine HS.out.mono ?_
                rintro e w8 ⟨vr2, vo2, rfl, ho2, hv8, hb8, hc8⟩
                have HRV8 := Aside0.mk hv8
                have HV8 := Aside0.mk (HV6.out.of_chg hc8 (by decide) (by decide) (by decide))
                have HO8 := Aside0.mk (TN.chg HO.out hc8 (by decide) (by decide))
                have HY8 := Aside0.mk (ho2.lower HB.out.size)
                have HB8 := Aside0.mk (HB.out.trans hb8)
                clear ho2 hv8 hb8 hc8
                go_wp2_with fail
                go_meet
                case rel => exact ⟨vr2, HY8, HO8, HV8, HRV8, HB8⟩
              · have e0 : (a.f0 == 0) = false := beq_eq_false_iff_ne.mpr c0
                have e1 : (a.f0 == 1) = false := beq_eq_false_iff_ne.mpr c1
                obtain ⟨hout, htop, hl'⟩ := HD.out.none c0 c1 c2
                have HOUT := Aside0.mk hout
                have HRV8 := Aside0.mk (show RW w.heap.size w6 gr vr (l'.map toR) top' by rw [htop, hl']; exact HRV6.out)
                clear c0 c1 c2 HSY hout htop hl'
                go_wp2_with fail
                go_meet
                case rel => exact ⟨vr, ⟨by rw [HOUT.out]; exact TN.nil _ _ _ _⟩, HO, HV6, HRV8, HB⟩
        case rest =>
          clear HO HV6 HRV6 HB h0 h1 h2 h3
          obtain ⟨vr2, HY, HO, HV, HRV, HB⟩ := hcut
          obtain ⟨Ay, cy, ey, hy1, hy2⟩ := HY.out.slice
          subst ey
          have HYY := Aside0.mk (And.intro hy1 hy2)
          obtain ⟨_, ho1, ho2⟩ := Kd.N_reads' HO.out
          have HOO := Aside0.mk (And.intro ho1 ho2)
          obtain ⟨ks, hks⟩ := (Same18_ev out (told_bound ho2).1 (told_bound ho2).2).at
          have HKS := Aside0.mk hks
          clear hy1 hy2 ho1 ho2 hks
          go_wp2_with fail
          refine (haversackref18_Same.calls ks Ao co out Ay cy out true _ HOO.out.2 HOO.out.1 HYY.out.2 HYY.out.1 HKS.out).mono ?_
          rintro e w9 ⟨rfl, hb9⟩
          have HV9 := Aside0.mk (HV.out.below hb9)
          have HRV9 := Aside0.mk (HRV.out.below hb9)
          have HB9 := Aside0.mk (HB.out.trans (hb9.mono HB.out.size))
          clear hb9
          go_wp2_with fail
          go_roundg k1
          case measure => omega
          case rel => exact ⟨x1, i + 1, g, v', l', top', vr2, rfl, rfl, ⟨by have := HX.out; have := HX1.out; have := HFC.out.len; have := HLA.out; omega⟩, HV9, ⟨HFC.out.ris⟩, HRV9, HB9⟩
end Go.Proofs.YtmpngedfnheilaaDoor.PP
