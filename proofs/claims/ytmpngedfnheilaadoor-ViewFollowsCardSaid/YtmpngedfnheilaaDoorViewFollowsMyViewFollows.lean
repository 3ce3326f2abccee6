/- YtmpngedfnheilaaDoorMyViewFollows, as far as ViewFollows needs it (prune.py). -/
import Derived.Test.YtmpngedfnheilaaDoorViewFollowsMyViewZ
import Derived.Deep.Cut
import Derived.Deep.CutRange
import Derived.Deep.CutBlock
namespace Go.Proofs.YtmpngedfnheilaaDoor.PP
open Go.RowKit Go.Proofs.YtmpngedfnheilaaDoorW.PrintWords Go.Proofs.YtmpngedfnheilaaDoorW.PrintLast Go.Proofs.YtmpngedfnheilaaDoorW.PrintMore
open Go.Proofs.YtmpngedfnheilaaDoor.My
set_option linter.unusedVariables false
set_option linter.unusedSimpArgs false
set_option maxHeartbeats 8000000 in
set_option maxRecDepth 100000 in
theorem haversacklaw18_ViewFollows.holds (A0 : Option Addr) (c0 : Nat) (l0 : List S43) (A1 : Option Addr) (c1 : Nat) (l1 : List S33) (w : World) (hr0 : Kd.C k43 w A0 l0.length l0) (hc0 : l0.length ≤ c0) (m0 : l0.length ≤ maxLen) (q0 : ∀ z ∈ l0, Q43 z) (hr1 : Kd.C k33 w A1 l1.length l1) (hc1 : l1.length ≤ c1) (m1 : l1.length ≤ maxLen) (q1 : ∀ z ∈ l1, Q33 z) :
    Calls Tryd.prog 8 #[.slice A0 l0.length c0, .slice A1 l1.length c1] w fun e w' => e = .returned (.bool true) ∧ Below w.heap.size w w' := by
  have HR0 := Aside0.mk (And.intro hr0 hc0)
  have HR1 := Aside0.mk (And.intro hr1 hc1)
  obtain ⟨kf, hk0, hk1, hk2⟩ := kf_all l0 l1 [] q0 q1 (fun z h => by cases h)
  have HK0 := Aside0.mk hk0
  have HK1 := Aside0.mk hk1
  have HK2 := Aside0.mk hk2
  obtain ⟨kl, bl, hkl⟩ := light_at l0 m0 q0
  obtain ⟨ke, be, hke⟩ := few_at l1 q1
  have HKL := Aside0.mk hkl
  have HKE := Aside0.mk hke
  have HB := Aside0.mk (Below.refl w.heap.size w)
  clear hk0 hk1 hk2 hkl hke hr0 hc0 m0 q0 hr1 hc1 m1 q1
  go_enter Tryd.func8, Tryd.ntmps8
  go_wp2_with fail
  refine (haversacklaw18_light.calls kl A0 c0 l0 bl _ HR0.out.1 HR0.out.2 HKL.out).mono ?_
  rintro e w1 ⟨rfl, hb1⟩
  replace HB := Aside0.mk (HB.out.trans hb1)
  clear hb1
  cases bl with
  | false =>
    go_wp2_with fail
    refine (alive_ok _).mono ?_
    rintro e wz ⟨rfl, hbz⟩
    have HBZ := Aside0.mk (HB.out.trans (hbz.mono HB.out.size))
    clear hbz
    go_wp2_with fail
    go_ret
    exact ⟨rfl, HBZ.out⟩
  | true =>
  have L0 := Aside0.mk (light_says kl l0 HKL.out)
  have HQ1 := Aside0.mk (Kd.C_below HR1.out.1 HB.out)
  go_wp2_with fail
  refine (haversacklaw18_few.calls ke A1 c1 l1 be _ HQ1.out HR1.out.2 HKE.out).mono ?_
  rintro e w2 ⟨rfl, hb2⟩
  replace HB := Aside0.mk (HB.out.trans (hb2.mono HB.out.size))
  clear hb2 HQ1
  cases be with
  | false =>
    go_wp2_with fail
    refine (alive_ok _).mono ?_
    rintro e wz ⟨rfl, hbz⟩
    have HBZ := Aside0.mk (HB.out.trans (hbz.mono HB.out.size))
    clear hbz
    go_wp2_with fail
    go_ret
    exact ⟨rfl, HBZ.out⟩
  | true =>
  have L1 := Aside0.mk (few_says ke l1 HKE.out)
  go_wp2_with fail
  obtain ⟨lv, hlv⟩ : ∃ lv, lv = (growL FL (risL l0 0) [] 0).1 := ⟨_, rfl⟩
  obtain ⟨tv, htv⟩ : ∃ tv, tv = (growL FL (risL l0 0) [] 0).2 := ⟨_, rfl⟩
  have HF0 := Aside0.mk (show Ris lv tv ∧ tv = uidAt lv (lv.length : Int) ∧ lv.length ≤ 60 ∧ 0 ≤ tv from ⟨by rw [hlv, htv]; exact first_ris l0 L0.out, by rw [hlv, htv]; exact first_top l0, by rw [hlv]; exact first_len l0 L0.out, by rw [htv]; exact first_nn l0⟩)
  have hn := viewNew_ok FL kf (fun k => k < w.heap.size) A0 c0 l0 w2 (Kd.F_below (Kd.C_F k43_heap HR0.out.1) HB.out) HK0.out (by have := L0.out; omega)
  rw [← hlv, ← htv] at hn
  have HNW := Aside0.mk hn
  clear hn hlv htv
  refine HNW.out.mono ?_
  rintro e w3 ⟨g, v, rfl, hv, hb3⟩
  have HV := Aside0.mk (hv.lower HB.out.size)
  replace HB := Aside0.mk (HB.out.trans (hb3.mono HB.out.size))
  clear hv hb3 HNW
  go_wp2_with fail
  refine (viewUIDs_ok w.heap.size g v lv tv _ HV.out (by have := HF0.out; omega)).mono ?_
  rintro e w4 ⟨v6, rfl, ho6, hb4⟩
  replace HV := Aside0.mk (HV.out.below hb4)
  have HO := Aside0.mk (Kd.R_lower ho6 HB.out.size)
  replace HB := Aside0.mk (HB.out.trans (hb4.mono HB.out.size))
  clear ho6 hb4
  go_wp2_with fail
  refine (viewMax_ok w.heap.size g v lv tv _ HV.out (by have := HF0.out; omega)).mono ?_
  rw [← HF0.out.2.1]
  rintro e w5 ⟨rfl, n5, rfl⟩
  replace HV := Aside0.mk (HV.out.drewN n5)
  replace HO := Aside0.mk (Kd.R_drewN HO.out n5)
  replace HB := Aside0.mk (pw_below_drewN HB.out n5)
  generalize w4.drewN n5 = w5 at HV HO HB ⊢
  go_wp2_with fail
  go_loopg [6, 7, 31] l1.length (fun kq v6 v7 v31 wr => ∃ (x : Int) (i : Nat) (v : Value) (l : List Pl) (top : Int), v31 = .int .i64 x ∧ v7 = .int .i64 top ∧ Aside0 (x = i ∧ i + kq = l1.length ∧ l.length ≤ 60 + 60 * i ∧ 0 ≤ top) ∧ Aside0 (VW w.heap.size wr g v l top) ∧ Aside0 (Ris l top) ∧ Aside0 (IRow wr w.heap.size v6 (us l)) ∧ Aside0 (Below w.heap.size w wr))
  case atStart => exact ⟨0, 0, v, lv, tv, rfl, rfl, ⟨rfl, by omega, by have := HF0.out; omega, HF0.out.2.2.2⟩, HV, ⟨HF0.out.1⟩, HO, HB⟩
  case round =>
    clear HV HO HB
    obtain ⟨x, i, v, l, top, rfl, rfl, HX, HV, HR, HO, HB⟩ := hrel
    cases gk with
    | zero =>
      have c1b : decide (x < (l1.length : Int)) = false := decide_eq_false (by have := HX.out; omega)
      go_wp2_with fail
      refine (alive_ok _).mono ?_
      rintro e wz ⟨rfl, hbz⟩
      have HBZ := Aside0.mk (HB.out.trans (hbz.mono HB.out.size))
      clear hbz
      go_wp2_with fail
      go_ret
      exact ⟨rfl, HBZ.out⟩
    | succ k1 =>
      have q1 : x < (l1.length : Int) := by have := HX.out; omega
      have q0 : 0 ≤ x := by have := HX.out; omega
      have c1b : decide (x < (l1.length : Int)) = true := decide_eq_true q1
      obtain ⟨ad, B1, d1, B3, d3, rfl, hx0, hx1, hx2, hx3, hl1, hi1, hl3, hi3⟩ := at_T33 HR1.out.1 x q0 q1
      have hK := HK1.out (rd_T33 l1 x) (by
        have := rd_mem33 l1 i (by have := HX.out; omega)
        rwa [show (i : Int) = x by have := HX.out; omega] at this)
      have hLA := L1.out.2 (rd_T33 l1 x) (by
        have := rd_mem33 l1 i (by have := HX.out; omega)
        rwa [show (i : Int) = x by have := HX.out; omega] at this)
      replace hx0 := (HB.out.cell (World.block_lt_of_cell? w _ hx0)).trans hx0
      replace hx1 := (HB.out.cell (World.block_lt_of_cell? w _ hx1)).trans hx1
      replace hx2 := (HB.out.cell (World.block_lt_of_cell? w _ hx2)).trans hx2
      replace hx3 := (HB.out.cell (World.block_lt_of_cell? w _ hx3)).trans hx3
      have q0b := eq_true q0
      have q1b := eq_true q1
      clear q0 q1
      generalize rd_T33 l1 x = a at hx0 hx1 hx2 hx3 hl1 hi1 hl3 hi3 hK hLA
      have HKA := Aside0.mk hK
      have HLA := Aside0.mk hLA
      have HA1 := Aside0.mk (And.intro hl1 (Kd.C_F k43_heap hi1))
      have HA3 := Aside0.mk (And.intro hl3 hi3)
      clear hl1 hi1 hl3 hi3 hK hLA
      obtain ⟨x1, hxx1⟩ : ∃ x1, wrap64 (x + 1) = x1 := ⟨_, rfl⟩
      have HX1 := Aside0.mk (show x1 = x + 1 by have := HX.out; have := L1.out; rw [← hxx1]; unfold wrap64; omega)
      have hxw : IntKind.i64.wrap (x + 1) = x1 := (i64_w _).trans hxx1
      go_upto_region 9 with fail
      obtain ⟨W5, hW5⟩ : ∃ W5, W5 = wr.alloc (.cells (acs a B1 d1 B3 d3).toArray 33) := ⟨_, rfl⟩
      rw [← hW5]
      have hblk : W5.heap[wr.heap.size]? = some (.cells (acs a B1 d1 B3 d3).toArray 33 (0, 0)) := by rw [hW5]; exact blk_new _ _
      have hb5 : Below wr.heap.size wr W5 := by rw [hW5]; exact below_alloc (Below.refl _ _) _
      have HV5 := Aside0.mk (HV.out.below hb5)
      have HO5 := Aside0.mk (show IRow W5 w.heap.size u6 (us l) from Kd.R_below HO.out hb5)
      replace HB := Aside0.mk (HB.out.trans (hb5.mono HB.out.size))
      have HAB := Aside0.mk (show w.heap.size ≤ wr.heap.size by have := HV.out.lt; have := HV.out.ge; omega)
      clear hx0 hx1 hx2 hx3 hW5 HV hb5 HO
      generalize wr.heap.size = aB at hblk HAB ⊢
      have HBK := Aside0.mk hblk
      have h0 := (blk_cell hblk 0).trans (show _ = some (Value.int .i64 a.f0) from rfl)
      have h1 := (blk_cell hblk 1).trans (show _ = some (Value.slice B1 a.f1.length d1) from rfl)
      have h2 := (blk_cell hblk 2).trans (show _ = some (Value.int .i64 a.f2) from rfl)
      have h3 := (blk_cell hblk 3).trans (show _ = some (Value.slice B3 a.f3.length d3) from rfl)
      clear hblk
      go_wp2_with fail
      refine (do_ok kf w.heap.size g v l top a (fun k => k < w.heap.size) B1 d1 B3 d3 _ HV5.out HR.out (Kd.F_below HA1.out.2 HB.out) (fun k hk _ hs => by
        rcases hs with rfl | hs
        · have := HV5.out.ge; omega
        · have := Kd.N_base HV5.out.row k hs; omega) HKA.out.2 (Kd.C_below HA3.out.2 HB.out) HA3.out.1 HKA.out.1 (by have := HX.out; have := HLA.out; have := L1.out.1; omega)).mono ?_
      rintro e w6 ⟨v', vo, l', top', out, rfl, hd, ho, hv, hb, hc⟩
      have HOT := Aside0.mk (show out.length ≤ 1000000 from hd.out_len HR.out (by have := HX.out; have := HLA.out; have := L1.out.1; omega))
      have HFC := Aside0.mk (hd.facts HR.out (by have := HX.out; have := HLA.out; have := L1.out.1; omega))
      have HV6 := Aside0.mk hv
      have hbk6 := hc.cells HBK.out (by decide)
      obtain ⟨At, ct, eo, hlt, hCt⟩ := ho.slice
      have HT := Aside0.mk (And.intro hlt hCt)
      have HO6 := Aside0.mk (IRow.chg HO5.out hc)
      replace HB := Aside0.mk (HB.out.trans hb)
      have HBK6 := Aside0.mk hbk6
      subst eo
      clear hd ho hv hb hc hbk6 hlt hCt h0 h1 h2 h3 HV5 HO5 HBK
      go_upto_region 11 with (first | ((with_reducible refine gate_dst (N := 38) rfl ?_); (try (refine gate_guard (by rfl) ?_; dsimp only)); refine Kd.R_lit (Kd.int .i64) _ 3 ?hg (N := 38) ?hd (xs := ([] : List Int)) (inner := []) (ok := fun _ => True) (okp := fun _ => True) ?hr ?hp (fun _ hk => hk) trivial (Below.refl _ _) (Nat.le_refl _) (by simp) ?_; (case hd => rfl); (case hg => rfl); (case hr => first | (go_simp; done) | (go_simp; rfl)); (case hp => exact (Reps.none _ _)); intro v38 w7 ho hb hg_ hnew_; have HL7 := Aside0.mk (Kd.R_lower ho HB.out.size); have HV7 := Aside0.mk (HV6.out.below hb); have HT7 := Aside0.mk (And.intro HT.out.1 (Kd.C_below HT.out.2 hb)); have HO7 := Aside0.mk (Kd.R_below HO6.out hb); have HB7 := Aside0.mk (HB.out.trans (hb.mono HB.out.size)); have HBK7 := Aside0.mk ((hb.block aB (blk_lt HBK6.out)).trans HBK6.out); clear hg_ hnew_ ho hb))
      clear HV6 HT HO6 HB HBK6
      have h0 := (blk_cell HBK7.out 0).trans (show _ = some (Value.int .i64 a.f0) from rfl)
      have h1 := (blk_cell HBK7.out 1).trans (show _ = some (Value.slice B1 a.f1.length d1) from rfl)
      obtain ⟨Ao, co, eo⟩ := Kd.R_slice HO7.out
      subst eo
      have HUL := Aside0.mk (show (us l).length ≤ 10000 ∧ (us l').length ≤ 10000 by have := HX.out; have := HFC.out.len; have := HLA.out; have := L1.out.1; rw [us_len, us_len]; omega)
      have HNL := Aside0.mk (newU_len a top)
      by_cases hk0 : a.f0 = 0
      · have e0 : (a.f0 == 0) = true := beq_iff_eq.mpr hk0
        have e1 : (a.f0 == 1) = false := beq_eq_false_iff_ne.mpr (by omega)
        have C1 := Aside0.mk (show a.f0 = 0 ∨ a.f0 = 1 from .inl hk0)
        clear hk0
        have HNU := Aside0.mk (show newU a top = freshG (risL a.f1 0) top by rw [newU, if_pos (by have := C1.out; omega)])
        obtain ⟨ka, hka⟩ := (Above_ev a.f1 (by have := HLA.out; omega) top).at
        rw [← HNU.out] at hka
        have HKAB := Aside0.mk hka
        clear hka
        go_wp2_with fail
        refine (haversacklaw18_above.calls ka B1 d1 a.f1 top (newU a top) w7 (Kd.F_now (Kd.F_below HA1.out.2 HB7.out)) HA1.out.1 HKAB.out).mono ?_
        rintro e w8 ⟨v11, rfl, ho8, hb8⟩
        have HN8 := Aside0.mk (Kd.R_lower ho8 HB7.out.size)
        have HV8 := Aside0.mk (HV7.out.below hb8)
        have HO8 := Aside0.mk (Kd.R_below HO7.out hb8)
        have HT8 := Aside0.mk (And.intro HT7.out.1 (Kd.C_below HT7.out.2 hb8))
        have HB8 := Aside0.mk (HB7.out.trans (hb8.mono HB7.out.size))
        have HBK8 := Aside0.mk ((hb8.block aB (blk_lt HBK7.out)).trans HBK7.out)
        clear ho8 hb8 h0 h1 HV7 HO7 HT7 HB7 HBK7
        have h0 := (blk_cell HBK8.out 0).trans (show _ = some (Value.int .i64 a.f0) from rfl)
        have h1 := (blk_cell HBK8.out 1).trans (show _ = some (Value.slice B1 a.f1.length d1) from rfl)
        go_wp2_with fail
        obtain ⟨Af, cf, ef⟩ := Kd.R_slice HN8.out
        subst ef
        have hn8 := Kd.R_reads' HN8.out
        refine (viewFollow_ok Ao co (us l) Af cf (newU a top) At ct out w8 (Kd.R_reads' HO8.out).2.2 hn8.2.2 hn8.2.1 HT8.out.2 (fun t ht => by have := HFC.out.within t ht; omega) (by have := HUL.out; have := HNL.out; have := HLA.out; omega) (by have := HOT.out; omega)).mono ?_
        rw [HFC.out.fol]
        rintro e w9 ⟨v12, rfl, ho9, hb9⟩
        have HN9 := Aside0.mk (Kd.R_lower ho9 HB8.out.size)
        have HV9 := Aside0.mk (HV8.out.below hb9)
        have HO9 := Aside0.mk (Kd.R_below HO8.out hb9)
        have HF9 := Aside0.mk (Kd.R_below HN8.out hb9)
        have HB9 := Aside0.mk (HB8.out.trans (hb9.mono HB8.out.size))
        have HBK9 := Aside0.mk ((hb9.block aB (blk_lt HBK8.out)).trans HBK8.out)
        obtain ⟨An, cn, en⟩ := Kd.R_slice HN9.out
        subst en
        clear ho9 hb9 hn8 h0 h1 HV8 HO8 HN8 HB8 HBK8 HT8
        go_wp2_with fail
        refine (viewUIDs_ok w.heap.size g v' l' top' _ HV9.out (by have := HUL.out; rw [us_len, us_len] at this; omega)).mono ?_
        rintro e w10 ⟨v63, rfl, ho10, hb10⟩
        have HV10 := Aside0.mk (HV9.out.below hb10)
        have HO10 := Aside0.mk (Kd.R_below HO9.out hb10)
        have HN10 := Aside0.mk (Kd.R_below HN9.out hb10)
        have HF10 := Aside0.mk (Kd.R_below HF9.out hb10)
        have HB10 := Aside0.mk (HB9.out.trans (hb10.mono HB9.out.size))
        have HBK10 := Aside0.mk ((hb10.block aB (blk_lt HBK9.out)).trans HBK9.out)
        replace ho10 : IRow w10 w9.heap.size v63 (us l') := ho10
        obtain ⟨Au, cu, eu⟩ := Kd.R_slice ho10
        subst eu
        have HU10 := Aside0.mk (Kd.R_reads' ho10)
        clear ho10 hb10 HV9 HO9 HN9 HF9 HB9 HBK9
        obtain ⟨ki, hki⟩ := (Ints_ev (us l') (us l') (by have := HUL.out; omega)).at
        rw [decide_eq_true rfl] at hki
        have HKI := Aside0.mk hki
        clear hki
        go_wp2_with fail
        refine (haversackref18_Ints.calls ki An cn (us l') Au cu (us l') true _ (Kd.R_reads' HN10.out).2.2 (Kd.R_reads' HN10.out).2.1 HU10.out.2.2 HU10.out.2.1 HKI.out).mono ?_
        rintro e w11 ⟨rfl, n11, rfl⟩
        have HV11 := Aside0.mk (HV10.out.drewN n11)
        have HO11 := Aside0.mk (Kd.R_drewN HO10.out n11)
        have HN11 := Aside0.mk (Kd.R_drewN HN10.out n11)
        have HF11 := Aside0.mk (Kd.R_drewN HF10.out n11)
        have HB11 := Aside0.mk (pw_below_drewN HB10.out n11)
        have h0 := (blk_cell (show (w10.drewN n11).heap[aB]? = _ from HBK10.out) 0).trans (show _ = some (Value.int .i64 a.f0) from rfl)
        generalize w10.drewN n11 = w11 at HV11 HO11 HN11 HF11 HB11 h0 ⊢
        clear HV10 HO10 HN10 HF10 HB10 HBK10 HU10
        by_cases hz : (newU a top).length = 0
        · have hz0 : newU a top = [] := List.eq_nil_of_length_eq_zero hz
          have d1 : decide ((0 : Int) < ((newU a top).length : Int)) = false := decide_eq_false (by omega)
          have d2 := eq_false (show ¬ 0 < (newU a top).length by omega)
          have HZ := Aside0.mk hz0
          clear hz hz0
          go_wp2_with fail
          go_roundg k1
          case measure => omega
          case rel => exact ⟨x1, i + 1, v', l', top', rfl, by rw [HFC.out.last, HZ.out]; rfl, ⟨by have := HX.out; have := HX1.out; have := HFC.out.len; have := HFC.out.le; have := HLA.out; omega⟩, HV11, ⟨HFC.out.ris⟩, HN11, HB11⟩
        · have d1 : decide ((0 : Int) < ((newU a top).length : Int)) = true := decide_eq_true (by omega)
          have d2 := eq_true (show 0 < (newU a top).length by omega)
          obtain ⟨j, hj⟩ : ∃ j, wrap64 (((newU a top).length : Int) - 1) = j := ⟨_, rfl⟩
          have hj2 : j = ((newU a top).length : Int) - 1 := by have := HNL.out; have := HLA.out; rw [← hj]; unfold wrap64; omega
          have hjw : IntKind.i64.wrap (((newU a top).length : Int) - 1) = j := (i64_w _).trans hj
          obtain ⟨af, rfl, hc⟩ := Kd.at_int (Kd.R_reads' HF11.out).2.2 j (by omega) (by omega)
          have hrd : rd (newU a top) j = top' := by
            rw [HFC.out.last, List.getLast?_eq_getElem?]
            unfold rd
            rw [List.getD_eq_getElem?_getD, show j.toNat = (newU a top).length - 1 by omega, List.getElem?_eq_getElem (show (newU a top).length - 1 < (newU a top).length by omega)]
            rfl
          rw [hrd] at hc
          have d3 := eq_true (show 0 ≤ j by omega)
          have d4 := eq_true (show j < ((newU a top).length : Int) by omega)
          clear hj hj2 hz hrd
          go_wp2_with fail
          go_roundg k1
          case measure => omega
          case rel => exact ⟨x1, i + 1, v', l', top', rfl, rfl, ⟨by have := HX.out; have := HX1.out; have := HFC.out.len; have := HFC.out.le; have := HLA.out; omega⟩, HV11, ⟨HFC.out.ris⟩, HN11, HB11⟩
      by_cases hk1 : a.f0 = 1
      · have e0 : (a.f0 == 0) = false := beq_eq_false_iff_ne.mpr hk0
        have e1 : (a.f0 == 1) = true := beq_iff_eq.mpr hk1
        have C1 := Aside0.mk hk1
        clear hk0 hk1
        have HNU := Aside0.mk (show newU a top = freshG (risL a.f1 0) top by rw [newU, if_pos (by have := C1.out; omega)])
        obtain ⟨ka, hka⟩ := (Above_ev a.f1 (by have := HLA.out; omega) top).at
        rw [← HNU.out] at hka
        have HKAB := Aside0.mk hka
        clear hka
        go_wp2_with fail
        refine (haversacklaw18_above.calls ka B1 d1 a.f1 top (newU a top) w7 (Kd.F_now (Kd.F_below HA1.out.2 HB7.out)) HA1.out.1 HKAB.out).mono ?_
        rintro e w8 ⟨v11, rfl, ho8, hb8⟩
        have HN8 := Aside0.mk (Kd.R_lower ho8 HB7.out.size)
        have HV8 := Aside0.mk (HV7.out.below hb8)
        have HO8 := Aside0.mk (Kd.R_below HO7.out hb8)
        have HT8 := Aside0.mk (And.intro HT7.out.1 (Kd.C_below HT7.out.2 hb8))
        have HB8 := Aside0.mk (HB7.out.trans (hb8.mono HB7.out.size))
        have HBK8 := Aside0.mk ((hb8.block aB (blk_lt HBK7.out)).trans HBK7.out)
        clear ho8 hb8 h0 h1 HV7 HO7 HT7 HB7 HBK7
        have h0 := (blk_cell HBK8.out 0).trans (show _ = some (Value.int .i64 a.f0) from rfl)
        have h1 := (blk_cell HBK8.out 1).trans (show _ = some (Value.slice B1 a.f1.length d1) from rfl)
        go_wp2_with fail
        obtain ⟨Af, cf, ef⟩ := Kd.R_slice HN8.out
        subst ef
        have hn8 := Kd.R_reads' HN8.out
        refine (viewFollow_ok Ao co (us l) Af cf (newU a top) At ct out w8 (Kd.R_reads' HO8.out).2.2 hn8.2.2 hn8.2.1 HT8.out.2 (fun t ht => by have := HFC.out.within t ht; omega) (by have := HUL.out; have := HNL.out; have := HLA.out; omega) (by have := HOT.out; omega)).mono ?_
        rw [HFC.out.fol]
        rintro e w9 ⟨v12, rfl, ho9, hb9⟩
        have HN9 := Aside0.mk (Kd.R_lower ho9 HB8.out.size)
        have HV9 := Aside0.mk (HV8.out.below hb9)
        have HO9 := Aside0.mk (Kd.R_below HO8.out hb9)
        have HF9 := Aside0.mk (Kd.R_below HN8.out hb9)
        have HB9 := Aside0.mk (HB8.out.trans (hb9.mono HB8.out.size))
        have HBK9 := Aside0.mk ((hb9.block aB (blk_lt HBK8.out)).trans HBK8.out)
        obtain ⟨An, cn, en⟩ := Kd.R_slice HN9.out
        subst en
        clear ho9 hb9 hn8 h0 h1 HV8 HO8 HN8 HB8 HBK8 HT8
        go_wp2_with fail
        refine (viewUIDs_ok w.heap.size g v' l' top' _ HV9.out (by have := HUL.out; rw [us_len, us_len] at this; omega)).mono ?_
        rintro e w10 ⟨v63, rfl, ho10, hb10⟩
        have HV10 := Aside0.mk (HV9.out.below hb10)
        have HO10 := Aside0.mk (Kd.R_below HO9.out hb10)
        have HN10 := Aside0.mk (Kd.R_below HN9.out hb10)
        have HF10 := Aside0.mk (Kd.R_below HF9.out hb10)
        have HB10 := Aside0.mk (HB9.out.trans (hb10.mono HB9.out.size))
        have HBK10 := Aside0.mk ((hb10.block aB (blk_lt HBK9.out)).trans HBK9.out)
        replace ho10 : IRow w10 w9.heap.size v63 (us l') := ho10
        obtain ⟨Au, cu, eu⟩ := Kd.R_slice ho10
        subst eu
        have HU10 := Aside0.mk (Kd.R_reads' ho10)
        clear ho10 hb10 HV9 HO9 HN9 HF9 HB9 HBK9
        obtain ⟨ki, hki⟩ := (Ints_ev (us l') (us l') (by have := HUL.out; omega)).at
        rw [decide_eq_true rfl] at hki
        have HKI := Aside0.mk hki
        clear hki
        go_wp2_with fail
        refine (haversackref18_Ints.calls ki An cn (us l') Au cu (us l') true _ (Kd.R_reads' HN10.out).2.2 (Kd.R_reads' HN10.out).2.1 HU10.out.2.2 HU10.out.2.1 HKI.out).mono ?_
        rintro e w11 ⟨rfl, n11, rfl⟩
        have HV11 := Aside0.mk (HV10.out.drewN n11)
        have HO11 := Aside0.mk (Kd.R_drewN HO10.out n11)
        have HN11 := Aside0.mk (Kd.R_drewN HN10.out n11)
        have HF11 := Aside0.mk (Kd.R_drewN HF10.out n11)
        have HB11 := Aside0.mk (pw_below_drewN HB10.out n11)
        have h0 := (blk_cell (show (w10.drewN n11).heap[aB]? = _ from HBK10.out) 0).trans (show _ = some (Value.int .i64 a.f0) from rfl)
        generalize w10.drewN n11 = w11 at HV11 HO11 HN11 HF11 HB11 h0 ⊢
        clear HV10 HO10 HN10 HF10 HB10 HBK10 HU10
        have hqu := HFC.out.quiet C1.out
        have hle : ¬ (us l').length < (us l).length := by rw [hqu, List.length_append]; omega
        have g1 : decide (((us l').length : Int) < ((us l).length : Int)) = false := decide_eq_false (by omega)
        have g2 := eq_false hle
        have g3 := eq_true (show (us l).length ≤ cn by have := (Kd.R_reads' HN11.out).2.1; omega)
        have g4 := eq_true (show ((us l).length : Int) ≤ (cn : Int) by have := (Kd.R_reads' HN11.out).2.1; omega)
        have HQU := Aside0.mk hqu
        obtain ⟨kj, hkj⟩ := (Ints_ev (us l) (us l) (by have := HUL.out; omega)).at
        rw [decide_eq_true rfl] at hkj
        have HKJ := Aside0.mk hkj
        have HTK := Aside0.mk (show Kd.C (Kd.int .i64) w11 An (us l).length (us l) from by
          have h := Kd.C_take (Kd.R_reads' HN11.out).2.2 (show (us l).length ≤ (us l').length by omega)
          have e : (us l').take (us l).length = us l := by rw [HQU.out, List.take_left]
          rw [e] at h
          exact h)
        clear hkj hqu hle
        go_wp2_with fail
        refine (haversackref18_Ints.calls kj An cn (us l) Ao co (us l) true _ HTK.out (by have h5 := (Kd.R_reads' HN11.out).2.1; have h6 := congrArg List.length HQU.out; rw [List.length_append] at h6; omega) (Kd.R_reads' HO11.out).2.2 (Kd.R_reads' HO11.out).2.1 HKJ.out).mono ?_
        rintro e w12 ⟨rfl, n12, rfl⟩
        replace HV11 := Aside0.mk (HV11.out.drewN n12)
        replace HN11 := Aside0.mk (Kd.R_drewN HN11.out n12)
        replace HF11 := Aside0.mk (Kd.R_drewN HF11.out n12)
        replace HB11 := Aside0.mk (pw_below_drewN HB11.out n12)
        clear h0 HTK g1 g2 g3 g4
        generalize w11.drewN n12 = w12 at HV11 HN11 HF11 HB11 ⊢
        by_cases hz : (newU a top).length = 0
        · have hz0 : newU a top = [] := List.eq_nil_of_length_eq_zero hz
          have d1 : decide ((0 : Int) < ((newU a top).length : Int)) = false := decide_eq_false (by omega)
          have d2 := eq_false (show ¬ 0 < (newU a top).length by omega)
          have HZ := Aside0.mk hz0
          clear hz hz0
          go_wp2_with fail
          go_roundg k1
          case measure => omega
          case rel => exact ⟨x1, i + 1, v', l', top', rfl, by rw [HFC.out.last, HZ.out]; rfl, ⟨by have := HX.out; have := HX1.out; have := HFC.out.len; have := HFC.out.le; have := HLA.out; omega⟩, HV11, ⟨HFC.out.ris⟩, HN11, HB11⟩
        · have d1 : decide ((0 : Int) < ((newU a top).length : Int)) = true := decide_eq_true (by omega)
          have d2 := eq_true (show 0 < (newU a top).length by omega)
          obtain ⟨j, hj⟩ : ∃ j, wrap64 (((newU a top).length : Int) - 1) = j := ⟨_, rfl⟩
          have hj2 : j = ((newU a top).length : Int) - 1 := by have := HNL.out; have := HLA.out; rw [← hj]; unfold wrap64; omega
          have hjw : IntKind.i64.wrap (((newU a top).length : Int) - 1) = j := (i64_w _).trans hj
          obtain ⟨af, rfl, hc⟩ := Kd.at_int (Kd.R_reads' HF11.out).2.2 j (by omega) (by omega)
          have hrd : rd (newU a top) j = top' := by
            rw [HFC.out.last, List.getLast?_eq_getElem?]
            unfold rd
            rw [List.getD_eq_getElem?_getD, show j.toNat = (newU a top).length - 1 by omega, List.getElem?_eq_getElem (show (newU a top).length - 1 < (newU a top).length by omega)]
            rfl
          rw [hrd] at hc
          have d3 := eq_true (show 0 ≤ j by omega)
          have d4 := eq_true (show j < ((newU a top).length : Int) by omega)
          clear hj hj2 hz hrd
          go_wp2_with fail
          go_roundg k1
          case measure => omega
          case rel => exact ⟨x1, i + 1, v', l', top', rfl, rfl, ⟨by have := HX.out; have := HX1.out; have := HFC.out.len; have := HFC.out.le; have := HLA.out; omega⟩, HV11, ⟨HFC.out.ris⟩, HN11, HB11⟩
      · have e0 : (a.f0 == 0) = false := beq_eq_false_iff_ne.mpr hk0
        have e1 : (a.f0 == 1) = false := beq_eq_false_iff_ne.mpr hk1
        have C1 := Aside0.mk (show ¬ (a.f0 = 0 ∨ a.f0 = 1) by omega)
        clear hk0 hk1
        have HN8 := Aside0.mk (show IRow w7 w.heap.size v38 (newU a top) by rw [newU, if_neg C1.out]; exact HL7.out)
        have HV8 := HV7
        have HO8 := HO7
        have HT8 := HT7
        have HB8 := HB7
        have HBK8 := HBK7
        clear HV7 HO7 HT7 HB7 HBK7 HL7
        go_wp2_with fail
        obtain ⟨Af, cf, ef⟩ := Kd.R_slice HN8.out
        subst ef
        have hn8 := Kd.R_reads' HN8.out
        refine (viewFollow_ok Ao co (us l) Af cf (newU a top) At ct out w7 (Kd.R_reads' HO8.out).2.2 hn8.2.2 hn8.2.1 HT8.out.2 (fun t ht => by have := HFC.out.within t ht; omega) (by have := HUL.out; have := HNL.out; have := HLA.out; omega) (by have := HOT.out; omega)).mono ?_
        rw [HFC.out.fol]
        rintro e w9 ⟨v12, rfl, ho9, hb9⟩
        have HN9 := Aside0.mk (Kd.R_lower ho9 HB8.out.size)
        have HV9 := Aside0.mk (HV8.out.below hb9)
        have HO9 := Aside0.mk (Kd.R_below HO8.out hb9)
        have HF9 := Aside0.mk (Kd.R_below HN8.out hb9)
        have HB9 := Aside0.mk (HB8.out.trans (hb9.mono HB8.out.size))
        have HBK9 := Aside0.mk ((hb9.block aB (blk_lt HBK8.out)).trans HBK8.out)
        obtain ⟨An, cn, en⟩ := Kd.R_slice HN9.out
        subst en
        clear ho9 hb9 hn8 h0 h1 HV8 HO8 HN8 HB8 HBK8 HT8
        go_wp2_with fail
        refine (viewUIDs_ok w.heap.size g v' l' top' _ HV9.out (by have := HUL.out; rw [us_len, us_len] at this; omega)).mono ?_
        rintro e w10 ⟨v63, rfl, ho10, hb10⟩
        have HV10 := Aside0.mk (HV9.out.below hb10)
        have HO10 := Aside0.mk (Kd.R_below HO9.out hb10)
        have HN10 := Aside0.mk (Kd.R_below HN9.out hb10)
        have HF10 := Aside0.mk (Kd.R_below HF9.out hb10)
        have HB10 := Aside0.mk (HB9.out.trans (hb10.mono HB9.out.size))
        have HBK10 := Aside0.mk ((hb10.block aB (blk_lt HBK9.out)).trans HBK9.out)
        replace ho10 : IRow w10 w9.heap.size v63 (us l') := ho10
        obtain ⟨Au, cu, eu⟩ := Kd.R_slice ho10
        subst eu
        have HU10 := Aside0.mk (Kd.R_reads' ho10)
        clear ho10 hb10 HV9 HO9 HN9 HF9 HB9 HBK9
        obtain ⟨ki, hki⟩ := (Ints_ev (us l') (us l') (by have := HUL.out; omega)).at
        rw [decide_eq_true rfl] at hki
        have HKI := Aside0.mk hki
        clear hki
        go_wp2_with fail
        refine (haversackref18_Ints.calls ki An cn (us l') Au cu (us l') true _ (Kd.R_reads' HN10.out).2.2 (Kd.R_reads' HN10.out).2.1 HU10.out.2.2 HU10.out.2.1 HKI.out).mono ?_
        rintro e w11 ⟨rfl, n11, rfl⟩
        have HV11 := Aside0.mk (HV10.out.drewN n11)
        have HO11 := Aside0.mk (Kd.R_drewN HO10.out n11)
        have HN11 := Aside0.mk (Kd.R_drewN HN10.out n11)
        have HF11 := Aside0.mk (Kd.R_drewN HF10.out n11)
        have HB11 := Aside0.mk (pw_below_drewN HB10.out n11)
        have h0 := (blk_cell (show (w10.drewN n11).heap[aB]? = _ from HBK10.out) 0).trans (show _ = some (Value.int .i64 a.f0) from rfl)
        generalize w10.drewN n11 = w11 at HV11 HO11 HN11 HF11 HB11 h0 ⊢
        clear HV10 HO10 HN10 HF10 HB10 HBK10 HU10
        by_cases hz : (newU a top).length = 0
        · have hz0 : newU a top = [] := List.eq_nil_of_length_eq_zero hz
          have d1 : decide ((0 : Int) < ((newU a top).length : Int)) = false := decide_eq_false (by omega)
          have d2 := eq_false (show ¬ 0 < (newU a top).length by omega)
          have HZ := Aside0.mk hz0
          clear hz hz0
          go_wp2_with fail
          go_roundg k1
          case measure => omega
          case rel => exact ⟨x1, i + 1, v', l', top', rfl, by rw [HFC.out.last, HZ.out]; rfl, ⟨by have := HX.out; have := HX1.out; have := HFC.out.len; have := HFC.out.le; have := HLA.out; omega⟩, HV11, ⟨HFC.out.ris⟩, HN11, HB11⟩
        · have d1 : decide ((0 : Int) < ((newU a top).length : Int)) = true := decide_eq_true (by omega)
          have d2 := eq_true (show 0 < (newU a top).length by omega)
          obtain ⟨j, hj⟩ : ∃ j, wrap64 (((newU a top).length : Int) - 1) = j := ⟨_, rfl⟩
          have hj2 : j = ((newU a top).length : Int) - 1 := by have := HNL.out; have := HLA.out; rw [← hj]; unfold wrap64; omega
          have hjw : IntKind.i64.wrap (((newU a top).length : Int) - 1) = j := (i64_w _).trans hj
          obtain ⟨af, rfl, hc⟩ := Kd.at_int (Kd.R_reads' HF11.out).2.2 j (by omega) (by omega)
          have hrd : rd (newU a top) j = top' := by
            rw [HFC.out.last, List.getLast?_eq_getElem?]
            unfold rd
            rw [List.getD_eq_getElem?_getD, show j.toNat = (newU a top).length - 1 by omega, List.getElem?_eq_getElem (show (newU a top).length - 1 < (newU a top).length by omega)]
            rfl
          rw [hrd] at hc
          have d3 := eq_true (show 0 ≤ j by omega)
          have d4 := eq_true (show j < ((newU a top).length : Int) by omega)
          clear hj hj2 hz hrd
          go_wp2_with fail
          go_roundg k1
          case measure => omega
          case rel => exact ⟨x1, i + 1, v', l', top', rfl, rfl, ⟨by have := HX.out; have := HX1.out; have := HFC.out.len; have := HFC.out.le; have := HLA.out; omega⟩, HV11, ⟨HFC.out.ris⟩, HN11, HB11⟩
end Go.Proofs.YtmpngedfnheilaaDoor.PP
