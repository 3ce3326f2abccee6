/- YtmpngedfnheilaaDoorMyViewWhole, as far as ViewWhole needs it (prune.py). -/
import Derived.Test.YtmpngedfnheilaaDoorViewWholeMyViewZ
import Derived.Test.YtmpngedfnheilaaDoorViewWholeMyViewW
import Derived.Test.YtmpngedfnheilaaDoorViewWholeMyViewWh
import Derived.Deep.Cut
import Derived.Deep.CutRange
import Derived.Deep.CutBlock
namespace Go.Proofs.YtmpngedfnheilaaDoor.PP
open Go.RowKit Go.Proofs.YtmpngedfnheilaaDoorW.PrintWords Go.Proofs.YtmpngedfnheilaaDoorW.PrintLast Go.Proofs.YtmpngedfnheilaaDoorW.PrintMore
open Go.Proofs.YtmpngedfnheilaaDoor.My
set_option linter.unusedVariables false
set_option linter.unusedSimpArgs false
attribute [local go_sem] max2_int min2_int max_two min_two max_three min_three
set_option maxHeartbeats 8000000 in
set_option maxRecDepth 100000 in
theorem haversacklaw18_ViewWhole.holds (A0 : Option Addr) (c0 : Nat) (l0 : List S43) (A1 : Option Addr) (c1 : Nat) (l1 : List S33) (A2 : Option Addr) (c2 : Nat) (l2 : List S43) (w : World) (hr0 : Kd.C k43 w A0 l0.length l0) (hc0 : l0.length ≤ c0) (m0 : l0.length ≤ maxLen) (q0 : ∀ z ∈ l0, Q43 z) (hr1 : Kd.C k33 w A1 l1.length l1) (hc1 : l1.length ≤ c1) (m1 : l1.length ≤ maxLen) (q1 : ∀ z ∈ l1, Q33 z) (hr2 : Kd.C k43 w A2 l2.length l2) (hc2 : l2.length ≤ c2) (m2 : l2.length ≤ maxLen) (q2 : ∀ z ∈ l2, Q43 z) :
    Calls Tryd.prog 4 #[.slice A0 l0.length c0, .slice A1 l1.length c1, .slice A2 l2.length c2] w fun e w' => e = .returned (.bool true) ∧ Below w.heap.size w w' := by
  have HR0 := Aside0.mk (And.intro hr0 hc0)
  have HR1 := Aside0.mk (And.intro hr1 hc1)
  obtain ⟨kf, hk0, hk1, hk2⟩ := kf_all l0 l1 l2 q0 q1 q2
  have HK0 := Aside0.mk hk0
  have HK1 := Aside0.mk hk1
  have HK2 := Aside0.mk hk2
  obtain ⟨kl, bl, hkl⟩ := light_at l0 m0 q0
  obtain ⟨ke, be, hke⟩ := few_at l1 q1
  have HKL := Aside0.mk hkl
  have HKE := Aside0.mk hke
  obtain ⟨km, bm, hkm⟩ := light_at l2 m2 q2
  have HKM := Aside0.mk hkm
  have HR2 := Aside0.mk (And.intro hr2 hc2)
  have HB := Aside0.mk (Below.refl w.heap.size w)
  clear hk0 hk1 hk2 hkl hke hr0 hc0 m0 q0 hr1 hc1 m1 q1 hkm hr2 hc2 m2 q2
  go_enter Tryd.func4, Tryd.ntmps4
  go_wp2_with fail
  refine (haversacklaw18_light.calls kl A0 c0 l0 bl _ HR0.out.1 HR0.out.2 HKL.out).mono ?_
  rintro e w1 ⟨rfl, hb1⟩
  replace HB := Aside0.mk (HB.out.trans hb1)
  clear hb1
  cases bl with
  | false =>
    go_wp2_with fail
    refine (alive_ok _).mono ?_
    rintro e wz ⟨rfl, hbz⟩
    have HBZ := Aside0.mk (HB.out.trans (hbz.mono HB.out.size))
    clear hbz
    go_wp2_with fail
    go_ret
    exact ⟨rfl, HBZ.out⟩
  | true =>
  have L0 := Aside0.mk (light_says kl l0 HKL.out)
  have HQ1 := Aside0.mk (Kd.C_below HR1.out.1 HB.out)
  go_wp2_with fail
  refine (haversacklaw18_few.calls ke A1 c1 l1 be _ HQ1.out HR1.out.2 HKE.out).mono ?_
  rintro e w2 ⟨rfl, hb2⟩
  replace HB := Aside0.mk (HB.out.trans (hb2.mono HB.out.size))
  clear hb2 HQ1
  cases be with
  | false =>
    go_wp2_with fail
    refine (alive_ok _).mono ?_
    rintro e wz ⟨rfl, hbz⟩
    have HBZ := Aside0.mk (HB.out.trans (hbz.mono HB.out.size))
    clear hbz
    go_wp2_with fail
    go_ret
    exact ⟨rfl, HBZ.out⟩
  | true =>
  have L1 := Aside0.mk (few_says ke l1 HKE.out)
  have HQ2 := Aside0.mk (Kd.C_below HR2.out.1 HB.out)
  go_wp2_with fail
  refine (haversacklaw18_light.calls km A2 c2 l2 bm _ HQ2.out HR2.out.2 HKM.out).mono ?_
  rintro e w2b ⟨rfl, hb2⟩
  replace HB := Aside0.mk (HB.out.trans (hb2.mono HB.out.size))
  clear hb2 HQ2
  cases bm with
  | false =>
    go_wp2_with fail
    refine (alive_ok _).mono ?_
    rintro e wz ⟨rfl, hbz⟩
    have HBZ := Aside0.mk (HB.out.trans (hbz.mono HB.out.size))
    clear hbz
    go_wp2_with fail
    go_ret
    exact ⟨rfl, HBZ.out⟩
  | true =>
  have L2 := Aside0.mk (light_says km l2 HKM.out)
  go_wp2_with fail
  obtain ⟨lv, hlv⟩ : ∃ lv, lv = (growL FL (risL l0 0) [] 0).1 := ⟨_, rfl⟩
  obtain ⟨tv, htv⟩ : ∃ tv, tv = (growL FL (risL l0 0) [] 0).2 := ⟨_, rfl⟩
  have HF0 := Aside0.mk (show Ris lv tv ∧ tv = uidAt lv (lv.length : Int) ∧ lv.length ≤ 60 ∧ 0 ≤ tv from ⟨by rw [hlv, htv]; exact first_ris l0 L0.out, by rw [hlv, htv]; exact first_top l0, by rw [hlv]; exact first_len l0 L0.out, by rw [htv]; exact first_nn l0⟩)
  have hn := viewNew_ok FL kf (fun k => k < w.heap.size) A0 c0 l0 w2b (Kd.F_below (Kd.C_F k43_heap HR0.out.1) HB.out) HK0.out (by have := L0.out; omega)
  rw [← hlv, ← htv] at hn
  have HNW := Aside0.mk hn
  clear hn hlv htv
  refine HNW.out.mono ?_
  rintro e w3 ⟨g, v, rfl, hv, hb3⟩
  have HV := Aside0.mk (hv.lower HB.out.size)
  replace HB := Aside0.mk (HB.out.trans (hb3.mono HB.out.size))
  clear hv hb3 HNW
  go_wp2_with fail
  refine (viewMax_ok w.heap.size g v lv tv _ HV.out (by have := HF0.out; omega)).mono ?_
  rw [← HF0.out.2.1]
  rintro e w5 ⟨rfl, n5, rfl⟩
  replace HV := Aside0.mk (HV.out.drewN n5)
  replace HB := Aside0.mk (pw_below_drewN HB.out n5)
  generalize w3.drewN n5 = w5 at HV HB ⊢
  go_upto_block 0 with fail
  go_cut [8] from 37 to 48 (fun v8 wc => ∃ (v : Value) (l : List Pl) (top : Int), v8 = .int .i64 top ∧ Aside0 (l.length ≤ 10000) ∧ Aside0 (VW w.heap.size wc g v l top) ∧ Aside0 (Ris l top) ∧ Aside0 (Below w.heap.size w wc))
  case first =>
    go_wp2_with fail
    go_loopg [8, 37] l1.length (fun kq v8 v37 wr => ∃ (x : Int) (i : Nat) (v : Value) (l : List Pl) (top : Int), v37 = .int .i64 x ∧ v8 = .int .i64 top ∧ Aside0 (x = i ∧ i + kq = l1.length ∧ l.length ≤ 60 + 60 * i ∧ 0 ≤ top) ∧ Aside0 (VW w.heap.size wr g v l top) ∧ Aside0 (Ris l top) ∧ Aside0 (Below w.heap.size w wr))
    case atStart => exact ⟨0, 0, v, lv, tv, rfl, rfl, ⟨rfl, by omega, by have := HF0.out; omega, HF0.out.2.2.2⟩, HV, ⟨HF0.out.1⟩, HB⟩
    case round =>
      clear HV HB
      obtain ⟨x, i, v, l, top, rfl, rfl, HX, HV, HR, HB⟩ := hrel
      cases gk with
      | zero =>
        have c1b : decide (x < (l1.length : Int)) = false := decide_eq_false (by have := HX.out; omega)
        go_wp2_with fail
        go_meet
        case rel => exact ⟨v, l, top, rfl, ⟨by have := HX.out; have := L1.out.1; omega⟩, HV, HR, HB⟩
      | succ k1 =>
        have q1 : x < (l1.length : Int) := by have := HX.out; omega
        have q0 : 0 ≤ x := by have := HX.out; omega
        have c1b : decide (x < (l1.length : Int)) = true := decide_eq_true q1
        obtain ⟨ad, B1, d1, B3, d3, rfl, hx0, hx1, hx2, hx3, hl1, hi1, hl3, hi3⟩ := at_T33 HR1.out.1 x q0 q1
        have hK := HK1.out (rd_T33 l1 x) (by
          have := rd_mem33 l1 i (by have := HX.out; omega)
          rwa [show (i : Int) = x by have := HX.out; omega] at this)
        have hLA := L1.out.2 (rd_T33 l1 x) (by
          have := rd_mem33 l1 i (by have := HX.out; omega)
          rwa [show (i : Int) = x by have := HX.out; omega] at this)
        replace hx0 := (HB.out.cell (World.block_lt_of_cell? w _ hx0)).trans hx0
        replace hx1 := (HB.out.cell (World.block_lt_of_cell? w _ hx1)).trans hx1
        replace hx2 := (HB.out.cell (World.block_lt_of_cell? w _ hx2)).trans hx2
        replace hx3 := (HB.out.cell (World.block_lt_of_cell? w _ hx3)).trans hx3
        have q0b := eq_true q0
        have q1b := eq_true q1
        clear q0 q1
        generalize rd_T33 l1 x = a at hx0 hx1 hx2 hx3 hl1 hi1 hl3 hi3 hK hLA
        have HKA := Aside0.mk hK
        have HLA := Aside0.mk hLA
        have HA1 := Aside0.mk (And.intro hl1 (Kd.C_F k43_heap hi1))
        have HA3 := Aside0.mk (And.intro hl3 hi3)
        clear hl1 hi1 hl3 hi3 hK hLA
        obtain ⟨x1, hxx1⟩ : ∃ x1, wrap64 (x + 1) = x1 := ⟨_, rfl⟩
        have HX1 := Aside0.mk (show x1 = x + 1 by have := HX.out; have := L1.out; rw [← hxx1]; unfold wrap64; omega)
        have hxw : IntKind.i64.wrap (x + 1) = x1 := (i64_w _).trans hxx1
        go_upto_region 8 with fail
        obtain ⟨W5, hW5⟩ : ∃ W5, W5 = wr.alloc (.cells (acs a B1 d1 B3 d3).toArray 33) := ⟨_, rfl⟩
        rw [← hW5]
        have hblk : W5.heap[wr.heap.size]? = some (.cells (acs a B1 d1 B3 d3).toArray 33 (0, 0)) := by rw [hW5]; exact blk_new _ _
        have hb5 : Below wr.heap.size wr W5 := by rw [hW5]; exact below_alloc (Below.refl _ _) _
        have HV5 := Aside0.mk (HV.out.below hb5)
        replace HB := Aside0.mk (HB.out.trans (hb5.mono HB.out.size))
        have HAB := Aside0.mk (show w.heap.size ≤ wr.heap.size by have := HV.out.lt; have := HV.out.ge; omega)
        clear hx0 hx1 hx2 hx3 hW5 HV hb5
        generalize wr.heap.size = aB at hblk HAB ⊢
        have HBK := Aside0.mk hblk
        have h0 := (blk_cell hblk 0).trans (show _ = some (Value.int .i64 a.f0) from rfl)
        have h1 := (blk_cell hblk 1).trans (show _ = some (Value.slice B1 a.f1.length d1) from rfl)
        have h2 := (blk_cell hblk 2).trans (show _ = some (Value.int .i64 a.f2) from rfl)
        have h3 := (blk_cell hblk 3).trans (show _ = some (Value.slice B3 a.f3.length d3) from rfl)
        clear hblk
        go_wp2_with fail
        refine (do_ok kf w.heap.size g v l top a (fun k => k < w.heap.size) B1 d1 B3 d3 _ HV5.out HR.out (Kd.F_below HA1.out.2 HB.out) (fun k hk _ hs => by
          rcases hs with rfl | hs
          · have := HV5.out.ge; omega
          · have := Kd.N_base HV5.out.row k hs; omega) HKA.out.2 (Kd.C_below HA3.out.2 HB.out) HA3.out.1 HKA.out.1 (by have := HX.out; have := HLA.out; have := L1.out.1; omega)).mono ?_
        rintro e w6 ⟨v', vo, l', top', out, rfl, hd, ho, hv, hb, hc⟩
        have HOT := Aside0.mk (show out.length ≤ 1000000 from hd.out_len HR.out (by have := HX.out; have := HLA.out; have := L1.out.1; omega))
        have HFC := Aside0.mk (hd.facts HR.out (by have := HX.out; have := HLA.out; have := L1.out.1; omega))
        have HV6 := Aside0.mk hv
        have hbk6 := hc.cells HBK.out (by decide)
        replace HB := Aside0.mk (HB.out.trans hb)
        clear hd ho hv hb hc hbk6 h0 h1 h2 h3 HV5 HBK
        have HUL := Aside0.mk (show l'.length ≤ 10000 by have := HX.out; have := HFC.out.len; have := HLA.out; have := L1.out.1; omega)
        have hmx := HFC.out.max (by have := HX.out; omega)
        have HMX := Aside0.mk hmx
        clear hmx
        go_wp2_with fail
        refine (viewMax_ok w.heap.size g v' l' top' _ HV6.out (by have := HUL.out; omega)).mono ?_
        rintro e w12 ⟨rfl, n12, rfl⟩
        replace HV6 := Aside0.mk (HV6.out.drewN n12)
        replace HB := Aside0.mk (pw_below_drewN HB.out n12)
        generalize w6.drewN n12 = w12 at HV6 HB ⊢
        go_wp2_with fail
        all_goals
          go_roundg k1
          case measure => omega
          case rel =>
            refine ⟨x1, i + 1, v', l', top', rfl, ?_, ⟨by have := HX.out; have := HX1.out; have := HFC.out.len; have := HFC.out.le; have := HLA.out; omega⟩, HV6, ⟨HFC.out.ris⟩, HB⟩
            have h := HMX.out
            unfold mx at h
            congr 1
            split at h <;> omega
  case rest =>
    obtain ⟨v, l, top, rfl, HLL, HV, HR, HB⟩ := hcut
    have hmk : ∀ (t : Nat) (u : World), (Instr.makeMap t none).run Tryd.prog u = .ok (.map (some u.heap.size)) (u.alloc (.map #[] 0)) := fun t u => rfl
    go_wp2_with fail
    have HI := Aside0.mk (show MI (wc.alloc (.map #[] 0)) wc.heap.size (bM ((us l).take 0)) from MI.alloc0 wc)
    have HIM := Aside0.mk (show w.heap.size ≤ wc.heap.size from HB.out.size)
    have hb8 : Below wc.heap.size wc (wc.alloc (.map #[] 0)) := below_alloc (Below.refl _ _) _
    have HV8 := Aside0.mk (HV.out.below hb8)
    have HB8 := Aside0.mk (HB.out.trans (hb8.mono HB.out.size))
    clear hb8 HV HB hmk
    generalize wc.alloc (.map #[] 0) = w8 at HI HV8 HB8 ⊢
    generalize wc.heap.size = im at HI HIM ⊢
    refine (viewUIDs_ok w.heap.size g v l top _ HV8.out (by have := HLL.out; omega)).mono ?_
    rintro e w9 ⟨v51, rfl, ho, hb⟩
    have HV9 := Aside0.mk (HV8.out.below hb)
    have HI9 := Aside0.mk (HI.out.below hb)
    have HU9 := Aside0.mk (show IRow w9 w.heap.size v51 (us l) from Kd.R_lower ho HB8.out.size)
    have HB9 := Aside0.mk (HB8.out.trans (hb.mono HB8.out.size))
    have HUL := Aside0.mk (show (us l).length ≤ 10000 by rw [us_len]; exact HLL.out)
    obtain ⟨Au, cu, eo⟩ := Kd.R_slice HU9.out
    subst eo
    clear ho hb HV8 HI HB8
    go_wp2_with fail
    go_loopg [53] (us l).length (fun kq v53 wr => ∃ (y : Int) (j : Nat), v53 = .int .i64 y ∧ Aside0 (y = j ∧ j + kq = (us l).length) ∧ Aside0 (VW w.heap.size wr g v l top) ∧ Aside0 (MI wr im (bM ((us l).take j))) ∧ Aside0 (IRow wr w.heap.size (.slice Au (us l).length cu) (us l)) ∧ Aside0 (Below w.heap.size w wr))
    case atStart => exact ⟨0, 0, rfl, ⟨rfl, by omega⟩, HV9, HI9, HU9, HB9⟩
    case round =>
      clear HV9 HI9 HU9 HB9
      obtain ⟨y, j, rfl, HY, HV9, HI9, HU9, HB9⟩ := hrel
      cases gk with
      | succ k2 =>
        have p1 : y < ((us l).length : Int) := by have := HY.out; omega
        have p0 : 0 ≤ y := by have := HY.out; omega
        have c3b : decide (y < ((us l).length : Int)) = true := decide_eq_true p1
        obtain ⟨ao, rfl, hu⟩ := Kd.at_int (Kd.R_reads' HU9.out).2.2 y p0 p1
        have hj : j < l.length := by have := HY.out; rw [us_len] at this; omega
        have hnw := ris_new HR.out j hj
        rw [show (j : Int) = y by have := HY.out; omega] at hnw
        have HTK := Aside0.mk (show (us l).take (j + 1) = (us l).take j ++ [rd (us l) y] by
          rw [take_rd _ j (by rw [us_len]; exact hj), show (j : Int) = y by have := HY.out; omega])
        obtain ⟨o, hput, HK2⟩ := bM_put HI9.out (rd (us l) y) hnw
        have HK3 := Aside0.mk HK2
        have hpu := eq_true p1
        have hp0 := eq_true p0
        obtain ⟨y1, hyy1⟩ : ∃ y1, wrap64 (y + 1) = y1 := ⟨_, rfl⟩
        have HY1 := Aside0.mk (show y1 = y + 1 by have := HY.out; have := HUL.out; rw [← hyy1]; unfold wrap64; omega)
        have hyw : IntKind.i64.wrap (y + 1) = y1 := (i64_w _).trans hyy1
        have HBa := Aside0.mk (setB_below HB9.out HIM.out o)
        have HVa := Aside0.mk (HV9.out.setB HI9.out o)
        have HUa := Aside0.mk (R_setB HU9.out HI9.out o)
        clear hnw HK2 p0 p1 hj hyy1 HV9 HI9 HU9 HB9
        go_wp2_with fail
        go_roundg k2
        case measure => omega
        case rel => exact ⟨y1, j + 1, rfl, ⟨by have := HY.out; have := HY1.out; omega⟩, HVa, ⟨by rw [HTK.out]; exact HK3.out⟩, HUa, HBa⟩
      | zero =>
        have c3b : decide (y < ((us l).length : Int)) = false := decide_eq_false (by have := HY.out; omega)
        have HKN := Aside0.mk (show MI wr im (bM (us l)) by have h := HI9.out; rwa [List.take_of_length_le (by have := HY.out; omega)] at h)
        clear HI9 HU9
        obtain ⟨kr, hkr⟩ := (Rising_ev l2 (by have := L2.out; omega)).at
        obtain ⟨ls, hls⟩ : ∃ ls, ls = risL l2 0 := ⟨_, rfl⟩
        rw [← hls] at hkr
        have HKR := Aside0.mk hkr
        have HLS := Aside0.mk hls
        have HLL2 := Aside0.mk (show ls.length ≤ 60 by have := risL_len l2 0; have := L2.out; rw [hls]; omega)
        clear hkr hls
        go_wp2_with fail
        refine (haversackref18_Rising.calls kr (fun k => k < w.heap.size) A2 c2 l2 ls _ (Kd.V_mk HR2.out.2 (Kd.F_below (Kd.C_F k43_heap HR2.out.1) HB9.out)) HKR.out).mono ?_
        rintro e wS ⟨v61, rfl, ho, hb⟩
        obtain ⟨As, cs, eo⟩ := Kd.N_slice ho
        subst eo
        have HVS := Aside0.mk (HV9.out.below hb)
        have HKS := Aside0.mk (HKN.out.below hb)
        have HCS := Aside0.mk (Kd.N_reads' ho).2.2
        have HBS := Aside0.mk (HB9.out.trans (hb.mono HB9.out.size))
        have HWS := Aside0.mk (show w.heap.size ≤ wS.heap.size from HBS.out.size)
        clear ho hb HV9 HKN HB9
        go_wp2_with fail
        go_loopg [14, 63] ls.length (fun kq v14 v63 wr => ∃ (z : Int) (j : Nat), v63 = .int .i64 z ∧ Aside0 (z = j ∧ j + kq = ls.length) ∧ Aside0 (IRow wr wS.heap.size v14 (wantL (us l) top (ls.take j))) ∧ Aside0 (Below wS.heap.size wS wr))
        case atStart => exact ⟨0, 0, rfl, ⟨rfl, by omega⟩, ⟨Kd.R_nil _ _ _ _ _⟩, ⟨Below.refl _ _⟩⟩
        case round =>
          obtain ⟨z, j, rfl, HZ, HW, HBW⟩ := hrel
          cases gk with
          | succ k2 =>
            have p1 : z < (ls.length : Int) := by have := HZ.out; omega
            have p0 : 0 ≤ z := by have := HZ.out; omega
            have c3b : decide (z < (ls.length : Int)) = true := decide_eq_true p1
            obtain ⟨az, B5, d5, rfl, hx0, hx1, hx2, hx3, hx4, hx5, hx6, hx7, hx8, hx9, hx10, hx11, hla, hia⟩ := at_T43 HCS.out z p0 p1
            replace hx0 := (HBW.out.cell (World.block_lt_of_cell? wS _ hx0)).trans hx0
            replace hx1 := (HBW.out.cell (World.block_lt_of_cell? wS _ hx1)).trans hx1
            replace hx2 := (HBW.out.cell (World.block_lt_of_cell? wS _ hx2)).trans hx2
            replace hx3 := (HBW.out.cell (World.block_lt_of_cell? wS _ hx3)).trans hx3
            replace hx4 := (HBW.out.cell (World.block_lt_of_cell? wS _ hx4)).trans hx4
            replace hx5 := (HBW.out.cell (World.block_lt_of_cell? wS _ hx5)).trans hx5
            replace hx6 := (HBW.out.cell (World.block_lt_of_cell? wS _ hx6)).trans hx6
            replace hx7 := (HBW.out.cell (World.block_lt_of_cell? wS _ hx7)).trans hx7
            replace hx8 := (HBW.out.cell (World.block_lt_of_cell? wS _ hx8)).trans hx8
            replace hx9 := (HBW.out.cell (World.block_lt_of_cell? wS _ hx9)).trans hx9
            replace hx10 := (HBW.out.cell (World.block_lt_of_cell? wS _ hx10)).trans hx10
            replace hx11 := (HBW.out.cell (World.block_lt_of_cell? wS _ hx11)).trans hx11
            have hwi := wantL_in (us l) top ls j (by have := HZ.out; omega)
            have hwo := wantL_out (us l) top ls j (by have := HZ.out; omega)
            rw [show (j : Int) = z by have := HZ.out; omega] at hwi hwo
            have hpu := eq_true p1
            have hp0 := eq_true p0
            obtain ⟨z1, hzz1⟩ : ∃ z1, wrap64 (z + 1) = z1 := ⟨_, rfl⟩
            have HZ1 := Aside0.mk (show z1 = z + 1 by have := HZ.out; have := HLL2.out; rw [← hzz1]; unfold wrap64; omega)
            have hzw : IntKind.i64.wrap (z + 1) = z1 := (i64_w _).trans hzz1
            clear p0 p1 hla hia hzz1
            generalize rd_T43 ls z = m at hx0 hx1 hx2 hx3 hx4 hx5 hx6 hx7 hx8 hx9 hx10 hx11 hwi hwo
            have HWI := Aside0.mk hwi
            have HWO := Aside0.mk hwo
            clear hwi hwo
            go_upto_region 21 with fail
            obtain ⟨W5, hW5⟩ : ∃ W5, W5 = wr.alloc (.cells (mcs m B5 d5).toArray 43) := ⟨_, rfl⟩
            rw [← hW5]
            have hblk : W5.heap[wr.heap.size]? = some (.cells (mcs m B5 d5).toArray 43 (0, 0)) := by rw [hW5]; exact blk_new _ _
            have hb5 : Below wr.heap.size wr W5 := by rw [hW5]; exact below_alloc (Below.refl _ _) _
            have HW5 := Aside0.mk (Kd.R_below HW.out hb5)
            have HB5 := Aside0.mk (HBW.out.trans (hb5.mono HBW.out.size))
            clear hx0 hx1 hx2 hx3 hx4 hx5 hx6 hx7 hx8 hx9 hx10 hx11 hW5 hb5 HW HBW
            generalize wr.heap.size = mB at hblk ⊢
            have hm0 := (blk_cell hblk 0).trans (show _ = some (Value.int .i64 m.f0) from rfl)
            have HBK := Aside0.mk hblk
            clear hblk
            have hlk := bM_look (HKS.out.below HB5.out) m.f0
            obtain ⟨Aw, cw, ew⟩ := Kd.R_slice HW5.out
            subst ew
            have HWL := Aside0.mk (show (wantL (us l) top (ls.take j)).length ≤ 100 by have := wantL_len (us l) top (ls.take j); rw [List.length_take] at this; have := HLL2.out; omega)
            by_cases hkn : m.f0 ∈ us l
            · rw [decide_eq_true hkn] at hlk
              have HT := Aside0.mk (HWI.out (.inl hkn))
              clear hkn
              generalize hwl : wantL (us l) top (ls.take j) = acc at HW5 HWL HT
              have HWLE := Aside0.mk hwl
              clear hwl
              go_wp2_with (first | ((with_reducible refine gate_builtin (b := .append) (xs := #[.tmp 77, .tmp 80]) rfl ?_); (try (refine gate_guard (by rfl) ?_; dsimp only)); at_builtin; refine Kd.R_append (Kd.int .i64) (w0 := wS) wS.heap.size rfl (.tmp 77) (.tmp 80) 34 3 (.int .i64 0) 8 rfl Tryd.underlying34 info3 rfl (by decide) (by omega) (.slice Aw acc.length cw) acc m.f0 [.int .i64 m.f0] (fun _ => True) (fun _ => False) rfl rfl ?aP (fun _ hk => hk.elim) ?aF ?aO ?aB ?aS ?aL ?_; (case aP => exact rfl); (case aB => exact HB5.out); (case aF => exact (fun _ _ => trivial)); (case aO => exact HW5.out); (case aS => exact HB5.out.size); (case aL => have := HWL.out; omega); intro v30 w6 ho hb hg hat; have HW6 := Aside0.mk ho; have HB6 := Aside0.mk hb; clear ho hb hg hat))
              go_roundg k2
              case measure => omega
              case rel => exact ⟨z1, j + 1, rfl, ⟨by have := HZ.out; have := HZ1.out; omega⟩, ⟨by rw [HT.out]; exact HW6.out⟩, HB6⟩
            · rw [decide_eq_false hkn] at hlk
              by_cases hab : top < m.f0
              · have hab1 : decide (top < m.f0) = true := decide_eq_true hab
                have HT := Aside0.mk (HWI.out (.inr hab))
                clear hkn hab
                generalize hwl : wantL (us l) top (ls.take j) = acc at HW5 HWL HT
                have HWLE := Aside0.mk hwl
                clear hwl
                go_wp2_with (first | ((with_reducible refine gate_builtin (b := .append) (xs := #[.tmp 77, .tmp 80]) rfl ?_); (try (refine gate_guard (by rfl) ?_; dsimp only)); at_builtin; refine Kd.R_append (Kd.int .i64) (w0 := wS) wS.heap.size rfl (.tmp 77) (.tmp 80) 34 3 (.int .i64 0) 8 rfl Tryd.underlying34 info3 rfl (by decide) (by omega) (.slice Aw acc.length cw) acc m.f0 [.int .i64 m.f0] (fun _ => True) (fun _ => False) rfl rfl ?aP (fun _ hk => hk.elim) ?aF ?aO ?aB ?aS ?aL ?_; (case aP => exact rfl); (case aB => exact HB5.out); (case aF => exact (fun _ _ => trivial)); (case aO => exact HW5.out); (case aS => exact HB5.out.size); (case aL => have := HWL.out; omega); intro v30 w6 ho hb hg hat; have HW6 := Aside0.mk ho; have HB6 := Aside0.mk hb; clear ho hb hg hat))
                go_roundg k2
                case measure => omega
                case rel => exact ⟨z1, j + 1, rfl, ⟨by have := HZ.out; have := HZ1.out; omega⟩, ⟨by rw [HT.out]; exact HW6.out⟩, HB6⟩
              · have hab1 : decide (top < m.f0) = false := decide_eq_false hab
                have HT := Aside0.mk (HWO.out (fun h => h.elim hkn hab))
                clear hkn hab
                go_wp2_with fail
                go_roundg k2
                case measure => omega
                case rel => exact ⟨z1, j + 1, rfl, ⟨by have := HZ.out; have := HZ1.out; omega⟩, ⟨by rw [HT.out]; exact HW5.out⟩, HB5⟩
          | zero =>
            have c3b : decide (z < (ls.length : Int)) = false := decide_eq_false (by have := HZ.out; omega)
            have HW := Aside0.mk (show IRow wr wS.heap.size u14 (wantL (us l) top ls) by have h := HW.out; rwa [List.take_of_length_le (by have := HZ.out; omega)] at h)
            have HV3 := Aside0.mk (HVS.out.below HBW.out)
            have HB3 := Aside0.mk (HBS.out.trans (HBW.out.mono HBS.out.size))
            obtain ⟨⟨l', top'⟩, out1, hs⟩ : ∃ a o, syncL FL false (risL l2 0) l top = (a, o) := ⟨_, _, rfl⟩
            obtain ⟨hw1, hw2, hw3⟩ := sync_whole l2 l top HR.out (by have := HLL.out; have := L2.out; omega) l' top' out1 hs
            rw [← HLS.out] at hw1
            have HW1 := Aside0.mk hw1
            have HW2 := Aside0.mk hw2
            have HW3 := Aside0.mk hw3
            have HSS := Aside0.mk hs
            have HLP := Aside0.mk (show l'.length ≤ 20000 by
              have h1 := congrArg List.length hw1
              have h2 := wantL_len (us l) top ls
              have := HLL2.out
              rw [us_len] at h1
              omega)
            clear hs hw1 hw2 hw3 HVS HKS HBS HCS
            go_wp2_with fail
            refine (viewSync_ok FL kf w.heap.size g v l top false (fun k => k < w.heap.size) A2 c2 l2 _ HV3.out HR.out (Kd.F_below (Kd.C_F k43_heap HR2.out.1) HB3.out) (fun k hk _ hs => by
              rcases hs with rfl | hs
              · have := HV3.out.ge; omega
              · have := Kd.N_base HV3.out.row k hs; omega) HK2.out (by have := HLL.out; have := L2.out; omega)).mono ?_
            rw [HSS.out]
            rintro e w13 ⟨v2, vo, rfl, ho, hv, hb, hc⟩
            have HV4 := Aside0.mk hv
            have HW4 := Aside0.mk (IRow.chg (Kd.R_lower HW.out (show w.heap.size ≤ wS.heap.size from by have := HB3.out.size; exact HWS.out)) hc)
            have HB4 := Aside0.mk (HB3.out.trans hb)
            obtain ⟨Aw, cw, ew⟩ := Kd.R_slice HW4.out
            obtain ⟨Ao1, co1, eo1, _, _⟩ := ho.slice
            subst ew eo1
            clear ho hv hb hc HV3 HB3 HW
            go_wp2_with fail
            refine (viewUIDs_ok w.heap.size g v2 l' top' _ HV4.out (by have := HLP.out; omega)).mono ?_
            rintro e w14 ⟨v87, rfl, ho, hb⟩
            have HU5 := Aside0.mk (show IRow w14 w.heap.size v87 (us l') from Kd.R_lower ho HB4.out.size)
            have HV5 := Aside0.mk (HV4.out.below hb)
            have HW5 := Aside0.mk (Kd.R_below HW4.out hb)
            have HB5 := Aside0.mk (HB4.out.trans (hb.mono HB4.out.size))
            obtain ⟨Au, cu', eu⟩ := Kd.R_slice HU5.out
            subst eu
            clear ho hb HV4 HW4 HB4
            obtain ⟨ki, hki⟩ := (Ints_ev (us l') (wantL (us l) top ls) (by have := HLP.out; rw [us_len]; omega)).at
            rw [decide_eq_true HW1.out] at hki
            have HKI := Aside0.mk hki
            clear hki
            go_wp2_with fail
            refine (haversackref18_Ints.calls ki Au cu' (us l') Aw cw (wantL (us l) top ls) true _ (Kd.R_reads' HU5.out).2.2 (Kd.R_reads' HU5.out).2.1 (Kd.R_reads' HW5.out).2.2 (Kd.R_reads' HW5.out).2.1 HKI.out).mono ?_
            rintro e w15 ⟨rfl, n15, rfl⟩
            have HV6 := Aside0.mk (HV5.out.drewN n15)
            have HB6 := Aside0.mk (pw_below_drewN HB5.out n15)
            generalize w14.drewN n15 = w15 at HV6 HB6 ⊢
            clear HU5 HV5 HW5 HB5
            go_wp2_with fail
            refine (viewSync_ok FL kf w.heap.size g v2 l' top' false (fun k => k < w.heap.size) A2 c2 l2 _ HV6.out HW2.out (Kd.F_below (Kd.C_F k43_heap HR2.out.1) HB6.out) (fun k hk _ hs => by
              rcases hs with rfl | hs
              · have := HV6.out.ge; omega
              · have := Kd.N_base HV6.out.row k hs; omega) HK2.out (by have := HLP.out; have := L2.out; omega)).mono ?_
            rw [HW3.out false]
            rintro e w16 ⟨v3, vo3, rfl, ho, hv, hb, hc⟩
            have HV7 := Aside0.mk hv
            have HB7 := Aside0.mk (HB6.out.trans hb)
            obtain ⟨Ao2, co2, eo2, _, _⟩ := ho.slice
            subst eo2
            clear ho hv hb hc HV6 HB6
            go_wp2_with fail
            refine (viewSync_ok FL kf w.heap.size g v3 l' top' true (fun k => k < w.heap.size) A2 c2 l2 _ HV7.out HW2.out (Kd.F_below (Kd.C_F k43_heap HR2.out.1) HB7.out) (fun k hk _ hs => by
              rcases hs with rfl | hs
              · have := HV7.out.ge; omega
              · have := Kd.N_base HV7.out.row k hs; omega) HK2.out (by have := HLP.out; have := L2.out; omega)).mono ?_
            rw [HW3.out true]
            rintro e w17 ⟨v4, vo4, rfl, ho, hv, hb, hc⟩
            have HB := Aside0.mk (HB7.out.trans hb)
            obtain ⟨Ao3, co3, eo3, _, _⟩ := ho.slice
            subst eo3
            clear ho hv hb hc HV7 HB7
            go_wp2_with fail
            refine (alive_ok _).mono ?_
            rintro e wz ⟨rfl, hbz⟩
            have HBZ := Aside0.mk (HB.out.trans (hbz.mono HB.out.size))
            clear hbz
            go_wp2_with fail
            go_ret
            exact ⟨rfl, HBZ.out⟩
end Go.Proofs.YtmpngedfnheilaaDoor.PP
