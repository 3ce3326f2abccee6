/- YtmpngedfnheilaaDoorMyViewRises, as far as ViewWhole needs it (prune.py). -/
import Derived.Test.YtmpngedfnheilaaDoorViewWholeMyViewZ
import Derived.Test.YtmpngedfnheilaaDoorViewWholeMyViewW
import Derived.Deep.Cut
import Derived.Deep.CutRange
import Derived.Deep.CutBlock
namespace Go.Proofs.YtmpngedfnheilaaDoor.PP
open Go.RowKit Go.Proofs.YtmpngedfnheilaaDoorW.PrintWords Go.Proofs.YtmpngedfnheilaaDoorW.PrintLast Go.Proofs.YtmpngedfnheilaaDoorW.PrintMore
open Go.Proofs.YtmpngedfnheilaaDoor.My
set_option linter.unusedVariables false
set_option linter.unusedSimpArgs false
attribute [local go_sem] max2_int min2_int max_two min_two max_three min_three
theorem ris_nodup {l : List Pl} {top : Int} (h : Ris l top) (i j : Nat) (hij : i < j) (hj : j < l.length) : rd (us l) i < rd (us l) j := by
  have h1 := us_rd l i (by omega)
  have h2 := us_rd l j hj
  unfold rd
  rw [Int.toNat_natCast, Int.toNat_natCast, List.getD_eq_getElem?_getD, List.getD_eq_getElem?_getD, h1, h2]
  exact h.up i j hij hj
theorem ris_first {l : List Pl} {top : Int} (h : Ris l top) (i : Nat) (hi : i < l.length) : 1 ≤ rd (us l) i ∧ rd (us l) i ≤ top := by
  have h1 := us_rd l i hi
  unfold rd
  rw [Int.toNat_natCast, List.getD_eq_getElem?_getD, h1]
  exact ⟨h.one i hi, h.top i hi⟩
theorem mem_take_rd (l : List Int) (j : Nat) (hj : j ≤ l.length) (u : Int) (h : u ∈ l.take j) : ∃ i, i < j ∧ rd l i = u := by
  obtain ⟨i, hi, rfl⟩ := List.getElem_of_mem h
  rw [List.length_take] at hi
  refine ⟨i, by omega, ?_⟩
  unfold rd
  rw [Int.toNat_natCast, List.getD_eq_getElem?_getD, List.getElem?_eq_getElem (by omega), Option.getD_some, List.getElem_take]
theorem ris_new {l : List Pl} {top : Int} (h : Ris l top) (j : Nat) (hj : j < l.length) : rd (us l) j ∉ (us l).take j := fun hm => by
  obtain ⟨i, hi, he⟩ := mem_take_rd (us l) j (by rw [us_len]; omega) _ hm
  have := ris_nodup h i j hi hj
  omega
theorem rd_memI (l : List Int) (i : Nat) (h : i < l.length) : rd l i ∈ l := by
  unfold rd
  simp [List.getD_eq_getElem?_getD, List.getElem?_eq_getElem h]
theorem take_rd (l : List Int) (i : Nat) (h : i < l.length) : l.take (i + 1) = l.take i ++ [rd l i] := by
  rw [List.take_add_one, List.getElem?_eq_getElem h]
  unfold rd
  simp [List.getD_eq_getElem?_getD, List.getElem?_eq_getElem h]
/-- Those of l that are not in m, as far as j. -/
def outs (l m : List Int) (j : Nat) : List Int := (l.take j).filter (fun u => decide (u ∉ m))
theorem outs_in (l m : List Int) (j : Nat) (h : j < l.length) (hm : rd l j ∈ m) : outs l m (j + 1) = outs l m j := by
  unfold outs
  rw [take_rd l j h, List.filter_append]
  simp [hm]
theorem outs_out (l m : List Int) (j : Nat) (h : j < l.length) (hm : rd l j ∉ m) : outs l m (j + 1) = outs l m j ++ [rd l j] := by
  unfold outs
  rw [take_rd l j h, List.filter_append]
  simp [hm]
theorem outs_mem (l m : List Int) (j : Nat) (u : Int) (h : u ∈ outs l m j) : u ∈ l ∧ u ∉ m := by
  unfold outs at h
  rw [List.mem_filter] at h
  exact ⟨List.mem_of_mem_take h.1, of_decide_eq_true h.2⟩
set_option maxHeartbeats 8000000 in
set_option maxRecDepth 100000 in
theorem haversacklaw18_ViewRises.holds (A0 : Option Addr) (c0 : Nat) (l0 : List S43) (A1 : Option Addr) (c1 : Nat) (l1 : List S33) (w : World) (hr0 : Kd.C k43 w A0 l0.length l0) (hc0 : l0.length ≤ c0) (m0 : l0.length ≤ maxLen) (q0 : ∀ z ∈ l0, Q43 z) (hr1 : Kd.C k33 w A1 l1.length l1) (hc1 : l1.length ≤ c1) (m1 : l1.length ≤ maxLen) (q1 : ∀ z ∈ l1, Q33 z) :
    Calls Tryd.prog 3 #[.slice A0 l0.length c0, .slice A1 l1.length c1] w fun e w' => e = .returned (.bool true) ∧ Below w.heap.size w w' := by
  have HR0 := Aside0.mk (And.intro hr0 hc0)
  have HR1 := Aside0.mk (And.intro hr1 hc1)
  obtain ⟨kf, hk0, hk1, hk2⟩ := kf_all l0 l1 [] q0 q1 (fun z h => by cases h)
  have HK0 := Aside0.mk hk0
  have HK1 := Aside0.mk hk1
  have HK2 := Aside0.mk hk2
  obtain ⟨kl, bl, hkl⟩ := light_at l0 m0 q0
  obtain ⟨ke, be, hke⟩ := few_at l1 q1
  have HKL := Aside0.mk hkl
  have HKE := Aside0.mk hke
  have HB := Aside0.mk (Below.refl w.heap.size w)
  clear hk0 hk1 hk2 hkl hke hr0 hc0 m0 q0 hr1 hc1 m1 q1
  go_enter Tryd.func3, Tryd.ntmps3
  go_wp2_with fail
  refine (haversacklaw18_light.calls kl A0 c0 l0 bl _ HR0.out.1 HR0.out.2 HKL.out).mono ?_
  rintro e w1 ⟨rfl, hb1⟩
  replace HB := Aside0.mk (HB.out.trans hb1)
  clear hb1
  cases bl with
  | false =>
    go_wp2_with fail
    refine (alive_ok _).mono ?_
    rintro e wz ⟨rfl, hbz⟩
    have HBZ := Aside0.mk (HB.out.trans (hbz.mono HB.out.size))
    clear hbz
    go_wp2_with fail
    go_ret
    exact ⟨rfl, HBZ.out⟩
  | true =>
  have L0 := Aside0.mk (light_says kl l0 HKL.out)
  have HQ1 := Aside0.mk (Kd.C_below HR1.out.1 HB.out)
  go_wp2_with fail
  refine (haversacklaw18_few.calls ke A1 c1 l1 be _ HQ1.out HR1.out.2 HKE.out).mono ?_
  rintro e w2 ⟨rfl, hb2⟩
  replace HB := Aside0.mk (HB.out.trans (hb2.mono HB.out.size))
  clear hb2 HQ1
  cases be with
  | false =>
    go_wp2_with fail
    refine (alive_ok _).mono ?_
    rintro e wz ⟨rfl, hbz⟩
    have HBZ := Aside0.mk (HB.out.trans (hbz.mono HB.out.size))
    clear hbz
    go_wp2_with fail
    go_ret
    exact ⟨rfl, HBZ.out⟩
  | true =>
  have L1 := Aside0.mk (few_says ke l1 HKE.out)
  go_wp2_with fail
  obtain ⟨lv, hlv⟩ : ∃ lv, lv = (growL FL (risL l0 0) [] 0).1 := ⟨_, rfl⟩
  obtain ⟨tv, htv⟩ : ∃ tv, tv = (growL FL (risL l0 0) [] 0).2 := ⟨_, rfl⟩
  have HF0 := Aside0.mk (show Ris lv tv ∧ tv = uidAt lv (lv.length : Int) ∧ lv.length ≤ 60 ∧ 0 ≤ tv from ⟨by rw [hlv, htv]; exact first_ris l0 L0.out, by rw [hlv, htv]; exact first_top l0, by rw [hlv]; exact first_len l0 L0.out, by rw [htv]; exact first_nn l0⟩)
  have hn := viewNew_ok FL kf (fun k => k < w.heap.size) A0 c0 l0 w2 (Kd.F_below (Kd.C_F k43_heap HR0.out.1) HB.out) HK0.out (by have := L0.out; omega)
  rw [← hlv, ← htv] at hn
  have HNW := Aside0.mk hn
  clear hn hlv htv
  refine HNW.out.mono ?_
  rintro e w3 ⟨g, v, rfl, hv, hb3⟩
  have HV := Aside0.mk (hv.lower HB.out.size)
  replace HB := Aside0.mk (HB.out.trans (hb3.mono HB.out.size))
  clear hv hb3 HNW
  have hmk : ∀ (t : Nat) (u : World), (Instr.makeMap t none).run Tryd.prog u = .ok (.map (some u.heap.size)) (u.alloc (.map #[] 0)) := fun t u => rfl
  go_wp2_with fail
  have HM := Aside0.mk (show MI (w3.alloc (.map #[] 0)) w3.heap.size (bM []) from MI.alloc0 w3)
  replace HV := Aside0.mk (HV.out.alloc (.map #[] 0))
  replace HB := Aside0.mk (HB.out.alloc HB.out.size (.map #[] 0))
  have HGM := Aside0.mk (show w.heap.size ≤ w3.heap.size by have := HV.out.ge; have := HV.out.lt; rw [sz_alloc] at this; omega)
  have HGG := Aside0.mk HGM.out
  generalize w3.alloc (.map #[] 0) = w4 at HM HV HB ⊢
  generalize w3.heap.size = gm at HM HGM ⊢
  clear hmk HGG
  refine (viewMax_ok w.heap.size g v lv tv _ HV.out (by have := HF0.out; omega)).mono ?_
  rw [← HF0.out.2.1]
  rintro e w5 ⟨rfl, n5, rfl⟩
  replace HV := Aside0.mk (HV.out.drewN n5)
  replace HM := Aside0.mk (HM.out.drewN n5)
  replace HB := Aside0.mk (pw_below_drewN HB.out n5)
  generalize w4.drewN n5 = w5 at HV HM HB ⊢
  go_wp2_with fail
  go_loopg [7, 36] l1.length (fun kq v7 v36 wr => ∃ (x : Int) (i : Nat) (v : Value) (l : List Pl) (top : Int) (gs : List Int), v36 = .int .i64 x ∧ v7 = .int .i64 top ∧ Aside0 (x = i ∧ i + kq = l1.length ∧ l.length ≤ 60 + 60 * i ∧ 0 ≤ top) ∧ Aside0 (VW w.heap.size wr g v l top) ∧ Aside0 (Ris l top) ∧ Aside0 (MI wr gm (bM gs) ∧ ∀ u ∈ gs, u ≤ top ∧ u ∉ us l) ∧ Aside0 (Below w.heap.size w wr))
  case atStart => exact ⟨0, 0, v, lv, tv, [], rfl, rfl, ⟨rfl, by omega, by have := HF0.out; omega, HF0.out.2.2.2⟩, HV, ⟨HF0.out.1⟩, ⟨HM.out, fun u h => by cases h⟩, HB⟩
  case round =>
    clear HV HM HB
    obtain ⟨x, i, v, l, top, gs, rfl, rfl, HX, HV, HR, HM, HB⟩ := hrel
    cases gk with
    | zero =>
      have c1b : decide (x < (l1.length : Int)) = false := decide_eq_false (by have := HX.out; omega)
      go_wp2_with fail
      refine (alive_ok _).mono ?_
      rintro e wz ⟨rfl, hbz⟩
      have HBZ := Aside0.mk (HB.out.trans (hbz.mono HB.out.size))
      clear hbz
      go_wp2_with fail
      go_ret
      exact ⟨rfl, HBZ.out⟩
    | succ k1 =>
      have q1 : x < (l1.length : Int) := by have := HX.out; omega
      have q0 : 0 ≤ x := by have := HX.out; omega
      have c1b : decide (x < (l1.length : Int)) = true := decide_eq_true q1
      obtain ⟨ad, B1, d1, B3, d3, rfl, hx0, hx1, hx2, hx3, hl1, hi1, hl3, hi3⟩ := at_T33 HR1.out.1 x q0 q1
      have hK := HK1.out (rd_T33 l1 x) (by
        have := rd_mem33 l1 i (by have := HX.out; omega)
        rwa [show (i : Int) = x by have := HX.out; omega] at this)
      have hLA := L1.out.2 (rd_T33 l1 x) (by
        have := rd_mem33 l1 i (by have := HX.out; omega)
        rwa [show (i : Int) = x by have := HX.out; omega] at this)
      replace hx0 := (HB.out.cell (World.block_lt_of_cell? w _ hx0)).trans hx0
      replace hx1 := (HB.out.cell (World.block_lt_of_cell? w _ hx1)).trans hx1
      replace hx2 := (HB.out.cell (World.block_lt_of_cell? w _ hx2)).trans hx2
      replace hx3 := (HB.out.cell (World.block_lt_of_cell? w _ hx3)).trans hx3
      have q0b := eq_true q0
      have q1b := eq_true q1
      clear q0 q1
      generalize rd_T33 l1 x = a at hx0 hx1 hx2 hx3 hl1 hi1 hl3 hi3 hK hLA
      have HKA := Aside0.mk hK
      have HLA := Aside0.mk hLA
      have HA1 := Aside0.mk (And.intro hl1 (Kd.C_F k43_heap hi1))
      have HA3 := Aside0.mk (And.intro hl3 hi3)
      clear hl1 hi1 hl3 hi3 hK hLA
      obtain ⟨x1, hxx1⟩ : ∃ x1, wrap64 (x + 1) = x1 := ⟨_, rfl⟩
      have HX1 := Aside0.mk (show x1 = x + 1 by have := HX.out; have := L1.out; rw [← hxx1]; unfold wrap64; omega)
      have hxw : IntKind.i64.wrap (x + 1) = x1 := (i64_w _).trans hxx1
      go_upto_region 9 with fail
      obtain ⟨W5, hW5⟩ : ∃ W5, W5 = wr.alloc (.cells (acs a B1 d1 B3 d3).toArray 33) := ⟨_, rfl⟩
      rw [← hW5]
      have hblk : W5.heap[wr.heap.size]? = some (.cells (acs a B1 d1 B3 d3).toArray 33 (0, 0)) := by rw [hW5]; exact blk_new _ _
      have hb5 : Below wr.heap.size wr W5 := by rw [hW5]; exact below_alloc (Below.refl _ _) _
      have HV5 := Aside0.mk (HV.out.below hb5)
      have HM5 := Aside0.mk (HM.out.1.below hb5)
      have HMG := Aside0.mk HM.out.2
      replace HB := Aside0.mk (HB.out.trans (hb5.mono HB.out.size))
      have HAB := Aside0.mk (show w.heap.size ≤ wr.heap.size by have := HV.out.lt; have := HV.out.ge; omega)
      clear hx0 hx1 hx2 hx3 hW5 HV hb5 HM
      generalize wr.heap.size = aB at hblk HAB ⊢
      have HBK := Aside0.mk hblk
      have h0 := (blk_cell hblk 0).trans (show _ = some (Value.int .i64 a.f0) from rfl)
      have h1 := (blk_cell hblk 1).trans (show _ = some (Value.slice B1 a.f1.length d1) from rfl)
      have h2 := (blk_cell hblk 2).trans (show _ = some (Value.int .i64 a.f2) from rfl)
      have h3 := (blk_cell hblk 3).trans (show _ = some (Value.slice B3 a.f3.length d3) from rfl)
      clear hblk
      go_wp2_with fail
      refine (viewUIDs_ok w.heap.size g v l top _ HV5.out (by have := HX.out; have := L1.out.1; omega)).mono ?_
      rintro e w51 ⟨v10, rfl, ho10, hb10⟩
      replace HV5 := Aside0.mk (HV5.out.below hb10)
      replace HM5 := Aside0.mk (HM5.out.below hb10)
      have HO5 := Aside0.mk (show IRow w51 w.heap.size v10 (us l) from Kd.R_lower ho10 HB.out.size)
      replace HB := Aside0.mk (HB.out.trans (hb10.mono HB.out.size))
      replace HBK := Aside0.mk ((hb10.block aB (blk_lt HBK.out)).trans HBK.out)
      have h0 := (blk_cell HBK.out 0).trans (show _ = some (Value.int .i64 a.f0) from rfl)
      have h1 := (blk_cell HBK.out 1).trans (show _ = some (Value.slice B1 a.f1.length d1) from rfl)
      have h2 := (blk_cell HBK.out 2).trans (show _ = some (Value.int .i64 a.f2) from rfl)
      have h3 := (blk_cell HBK.out 3).trans (show _ = some (Value.slice B3 a.f3.length d3) from rfl)
      clear ho10 hb10
      go_wp2_with fail
      refine (do_ok kf w.heap.size g v l top a (fun k => k < w.heap.size) B1 d1 B3 d3 _ HV5.out HR.out (Kd.F_below HA1.out.2 HB.out) (fun k hk _ hs => by
        rcases hs with rfl | hs
        · have := HV5.out.ge; omega
        · have := Kd.N_base HV5.out.row k hs; omega) HKA.out.2 (Kd.C_below HA3.out.2 HB.out) HA3.out.1 HKA.out.1 (by have := HX.out; have := HLA.out; have := L1.out.1; omega)).mono ?_
      rintro e w6 ⟨v', vo, l', top', out, rfl, hd, ho, hv, hb, hc⟩
      have HOT := Aside0.mk (show out.length ≤ 1000000 from hd.out_len HR.out (by have := HX.out; have := HLA.out; have := L1.out.1; omega))
      have HFC := Aside0.mk (hd.facts HR.out (by have := HX.out; have := HLA.out; have := L1.out.1; omega))
      have HV6 := Aside0.mk hv
      have hbk6 := hc.cells HBK.out (by decide)
      have HM6 := Aside0.mk (hc.mi HM5.out)
      have HO6 := Aside0.mk (IRow.chg HO5.out hc)
      replace HB := Aside0.mk (HB.out.trans hb)
      clear hd ho hv hb hc hbk6 h0 h1 h2 h3 HV5 HO5 HBK HM5
      have HUL := Aside0.mk (show (us l).length ≤ 10000 ∧ (us l').length ≤ 10000 by have := HX.out; have := HFC.out.len; have := HLA.out; have := L1.out.1; rw [us_len, us_len]; omega)
      go_wp2_with fail
      refine (viewUIDs_ok w.heap.size g v' l' top' _ HV6.out (by have := HUL.out; rw [us_len, us_len] at this; omega)).mono ?_
      rintro e w7 ⟨v11, rfl, ho11, hb11⟩
      replace HV6 := Aside0.mk (HV6.out.below hb11)
      replace HM6 := Aside0.mk (HM6.out.below hb11)
      replace HO6 := Aside0.mk (Kd.R_below HO6.out hb11)
      have HN6 := Aside0.mk (show IRow w7 w.heap.size v11 (us l') from Kd.R_lower ho11 HB.out.size)
      replace HB := Aside0.mk (HB.out.trans (hb11.mono HB.out.size))
      obtain ⟨An, cn, eo⟩ := Kd.R_slice HN6.out
      subst eo
      obtain ⟨Ao, co, eo⟩ := Kd.R_slice HO6.out
      subst eo
      clear ho11 hb11
      have hmk : ∀ (t : Nat) (u : World), (Instr.makeMap t none).run Tryd.prog u = .ok (.map (some u.heap.size)) (u.alloc (.map #[] 0)) := fun t u => rfl
      go_wp2_with fail
      have HI := Aside0.mk (show MI (w7.alloc (.map #[] 0)) w7.heap.size (bM ((us l').take 0)) from MI.alloc0 w7)
      have HIM := Aside0.mk (show gm ≠ w7.heap.size ∧ w.heap.size ≤ w7.heap.size from ⟨by have := HM6.out.ltS; omega, HB.out.size⟩)
      have hb8 : Below w7.heap.size w7 (w7.alloc (.map #[] 0)) := below_alloc (Below.refl _ _) _
      have HV8 := Aside0.mk (HV6.out.below hb8)
      have HM8 := Aside0.mk (HM6.out.below hb8)
      have HO8 := Aside0.mk (Kd.R_below HO6.out hb8)
      have HN8 := Aside0.mk (Kd.R_below HN6.out hb8)
      have HB8 := Aside0.mk (HB.out.trans (hb8.mono HB.out.size))
      clear hb8 HV6 HM6 HO6 HN6 HB hmk
      generalize w7.alloc (.map #[] 0) = w8 at HI HV8 HM8 HO8 HN8 HB8 ⊢
      generalize w7.heap.size = im at HI HIM ⊢
      go_loopg [50] (us l').length (fun kq v50 wr => ∃ (y : Int) (j : Nat), v50 = .int .i64 y ∧ Aside0 (y = j ∧ j + kq = (us l').length) ∧ Aside0 (VW w.heap.size wr g v' l' top') ∧ Aside0 (MI wr gm (bM gs)) ∧ Aside0 (MI wr im (bM ((us l').take j))) ∧ Aside0 (IRow wr w.heap.size (.slice Ao (us l).length co) (us l)) ∧ Aside0 (IRow wr w.heap.size (.slice An (us l').length cn) (us l')) ∧ Aside0 (Below w.heap.size w wr))
      case atStart => exact ⟨0, 0, rfl, ⟨rfl, by omega⟩, HV8, HM8, HI, HO8, HN8, HB8⟩
      case round =>
        clear HI HV8 HM8 HO8 HN8 HB8
        obtain ⟨y, j, rfl, HY, HV8, HM8, HI, HO8, HN8, HB8⟩ := hrel
        cases gk with
        | succ k2 =>
          have p1 : y < ((us l').length : Int) := by have := HY.out; omega
          have p0 : 0 ≤ y := by have := HY.out; omega
          have c2b : decide (y < ((us l').length : Int)) = true := decide_eq_true p1
          obtain ⟨an, rfl, hu⟩ := Kd.at_int (Kd.R_reads' HN8.out).2.2 y p0 p1
          have hj : j < l'.length := by have := HY.out; rw [us_len] at this; omega
          have hf := ris_first HFC.out.ris j hj
          have hnw := ris_new HFC.out.ris j hj
          have hgo : rd (us l') j ∉ gs := fun h => by
            have h1 := HMG.out _ h
            rcases HFC.out.mem _ (rd_memI (us l') j (by rw [us_len]; exact hj)) with h2 | h2
            · exact h1.2 h2
            · omega
          have hprev : 0 < j → rd (us l') ((j - 1 : Nat) : Int) < rd (us l') j := fun h => ris_nodup HFC.out.ris (j - 1) j (by omega) hj
          rw [show (j : Int) = y by have := HY.out; omega] at hf hnw hgo hprev
          have HTK := Aside0.mk (show (us l').take (j + 1) = (us l').take j ++ [rd (us l') y] by
            rw [take_rd _ j (by rw [us_len]; exact hj), show (j : Int) = y by have := HY.out; omega])
          have hlk := bM_look HM8.out (rd (us l') y)
          rw [decide_eq_false hgo] at hlk
          obtain ⟨o, hput, HI2⟩ := bM_put HI.out (rd (us l') y) hnw
          have HI3 := Aside0.mk HI2
          have hpu := eq_true p1
          have hp0 := eq_true p0
          have hge := eq_false (show ¬ rd (us l') y < 1 by omega)
          have hgeb : decide (rd (us l') y < 1) = false := decide_eq_false (by omega)
          obtain ⟨y1, hyy1⟩ : ∃ y1, wrap64 (y + 1) = y1 := ⟨_, rfl⟩
          have HY1 := Aside0.mk (show y1 = y + 1 by have := HY.out; have := HUL.out; rw [← hyy1]; unfold wrap64; omega)
          have hyw : IntKind.i64.wrap (y + 1) = y1 := (i64_w _).trans hyy1
          have HB9 := Aside0.mk (setB_below HB8.out HIM.out.2 o)
          have HV9 := Aside0.mk (HV8.out.setB HI.out o)
          have HM9 := Aside0.mk (HM8.out.other HIM.out.1 o)
          have HO9 := Aside0.mk (R_setB HO8.out HI.out o)
          have HN9 := Aside0.mk (R_setB HN8.out HI.out o)
          by_cases hz : j = 0
          · have z0 : decide ((0 : Int) < y) = false := decide_eq_false (by have := HY.out; omega)
            have z1 := eq_false (show ¬ 0 < y by have := HY.out; omega)
            clear hf hnw hgo hprev HI2 p0 p1 hz hj hyy1 HM8 HI HO8 HN8 HB8 HV8
            go_wp2_with fail
            go_roundg k2
            case measure => omega
            case rel => exact ⟨y1, j + 1, rfl, ⟨by have := HY.out; have := HY1.out; omega⟩, HV9, HM9, ⟨by rw [HTK.out]; exact HI3.out⟩, HO9, HN9, HB9⟩
          · have z0 : decide ((0 : Int) < y) = true := decide_eq_true (by have := HY.out; omega)
            have z1 := eq_true (show 0 < y by have := HY.out; omega)
            obtain ⟨y0, hyy0⟩ : ∃ y0, wrap64 (y - 1) = y0 := ⟨_, rfl⟩
            have hy0 : y0 = y - 1 := by have := HY.out; have := HUL.out; rw [← hyy0]; unfold wrap64; omega
            have hyw0 : IntKind.i64.wrap (y - 1) = y0 := (i64_w _).trans hyy0
            obtain ⟨_, e, hu0⟩ := Kd.at_int (Kd.R_reads' HN8.out).2.2 y0 (by have := HY.out; omega) (by omega)
            cases e
            have z2 := eq_true (show 0 ≤ y0 by have := HY.out; omega)
            have z3 := eq_true (show y0 < ((us l').length : Int) by omega)
            have hpv : rd (us l') y0 < rd (us l') y := by
              have := hprev (by omega)
              rwa [show (((j - 1 : Nat) : Int)) = y0 by have := HY.out; omega] at this
            have z4 : decide (rd (us l') y ≤ rd (us l') y0) = false := decide_eq_false (by omega)
            clear hf hnw hgo hprev HI2 p0 p1 hz hj hyy1 hyy0 hy0 hpv HM8 HI HO8 HN8 HB8 HV8
            go_wp2_with fail
            go_roundg k2
            case measure => omega
            case rel => exact ⟨y1, j + 1, rfl, ⟨by have := HY.out; have := HY1.out; omega⟩, HV9, HM9, ⟨by rw [HTK.out]; exact HI3.out⟩, HO9, HN9, HB9⟩
        | zero =>
          have c2b : decide (y < ((us l').length : Int)) = false := decide_eq_false (by have := HY.out; omega)
          have HI := Aside0.mk (show MI wr im (bM (us l')) by have h := HI.out; rwa [List.take_of_length_le (by have := HY.out; omega)] at h)
          have hmk : ∀ (t : Nat) (u : World), (Instr.makeMap t none).run Tryd.prog u = .ok (.map (some u.heap.size)) (u.alloc (.map #[] 0)) := fun t u => rfl
          go_wp2_with fail
          have HKN := Aside0.mk (show MI (wr.alloc (.map #[] 0)) wr.heap.size (bM ((us l).take 0)) from MI.alloc0 wr)
          have HKM := Aside0.mk (show gm ≠ wr.heap.size ∧ im ≠ wr.heap.size ∧ w.heap.size ≤ wr.heap.size from ⟨by have := HM8.out.ltS; omega, by have := HI.out.ltS; omega, HB8.out.size⟩)
          have hb9 : Below wr.heap.size wr (wr.alloc (.map #[] 0)) := below_alloc (Below.refl _ _) _
          have HV9 := Aside0.mk (HV8.out.below hb9)
          have HM9 := Aside0.mk (show MI _ gm (bM (gs ++ outs (us l) (us l') 0)) from by
            have h := HM8.out.below hb9
            rw [show outs (us l) (us l') 0 = [] from rfl, List.append_nil]
            exact h)
          have HI9 := Aside0.mk (HI.out.below hb9)
          have HO9 := Aside0.mk (Kd.R_below HO8.out hb9)
          have HN9 := Aside0.mk (Kd.R_below HN8.out hb9)
          have HB9 := Aside0.mk (HB8.out.trans (hb9.mono HB8.out.size))
          clear hb9 hmk HV8 HM8 HI HO8 HN8 HB8
          generalize wr.alloc (.map #[] 0) = w9 at HKN HV9 HM9 HI9 HO9 HN9 HB9 ⊢
          generalize wr.heap.size = km at HKN HKM ⊢
          go_loopg [81] (us l).length (fun kq v81 wr => ∃ (y : Int) (j : Nat), v81 = .int .i64 y ∧ Aside0 (y = j ∧ j + kq = (us l).length) ∧ Aside0 (VW w.heap.size wr g v' l' top') ∧ Aside0 (MI wr gm (bM (gs ++ outs (us l) (us l') j))) ∧ Aside0 (MI wr im (bM (us l'))) ∧ Aside0 (MI wr km (bM ((us l).take j))) ∧ Aside0 (IRow wr w.heap.size (.slice Ao (us l).length co) (us l)) ∧ Aside0 (IRow wr w.heap.size (.slice An (us l').length cn) (us l')) ∧ Aside0 (Below w.heap.size w wr))
          case atStart => exact ⟨0, 0, rfl, ⟨rfl, by omega⟩, HV9, HM9, HI9, HKN, HO9, HN9, HB9⟩
          case round =>
            clear HKN HV9 HM9 HI9 HO9 HN9 HB9
            obtain ⟨y, j, rfl, HY, HV9, HM9, HI9, HKN, HO9, HN9, HB9⟩ := hrel
            cases gk with
            | succ k2 =>
              have p1 : y < ((us l).length : Int) := by have := HY.out; omega
              have p0 : 0 ≤ y := by have := HY.out; omega
              have c3b : decide (y < ((us l).length : Int)) = true := decide_eq_true p1
              obtain ⟨ao, rfl, hu⟩ := Kd.at_int (Kd.R_reads' HO9.out).2.2 y p0 p1
              have hj : j < l.length := by have := HY.out; rw [us_len] at this; omega
              have hnw := ris_new HR.out j hj
              have hgo : rd (us l) j ∉ gs ++ outs (us l) (us l') j := fun h => by
                rcases List.mem_append.1 h with h | h
                · exact (HMG.out _ h).2 (rd_memI (us l) j (by rw [us_len]; exact hj))
                · unfold outs at h
                  exact hnw (List.mem_filter.1 h).1
              have hin := fun (h : rd (us l) j ∈ us l') => outs_in (us l) (us l') j (by rw [us_len]; exact hj) h
              have hout := fun (h : rd (us l) j ∉ us l') => outs_out (us l) (us l') j (by rw [us_len]; exact hj) h
              rw [show (j : Int) = y by have := HY.out; omega] at hnw hgo hin hout
              have HTK := Aside0.mk (show (us l).take (j + 1) = (us l).take j ++ [rd (us l) y] by
                rw [take_rd _ j (by rw [us_len]; exact hj), show (j : Int) = y by have := HY.out; omega])
              obtain ⟨o, hput, HK2⟩ := bM_put HKN.out (rd (us l) y) hnw
              have HK3 := Aside0.mk HK2
              have hpu := eq_true p1
              have hp0 := eq_true p0
              obtain ⟨y1, hyy1⟩ : ∃ y1, wrap64 (y + 1) = y1 := ⟨_, rfl⟩
              have HY1 := Aside0.mk (show y1 = y + 1 by have := HY.out; have := HUL.out; rw [← hyy1]; unfold wrap64; omega)
              have hyw : IntKind.i64.wrap (y + 1) = y1 := (i64_w _).trans hyy1
              have HBa := Aside0.mk (setB_below HB9.out HKM.out.2.2 o)
              have HVa := Aside0.mk (HV9.out.setB HKN.out o)
              have HMa := Aside0.mk (HM9.out.other HKM.out.1 o)
              have HIa := Aside0.mk (HI9.out.other HKM.out.2.1 o)
              have HOa := Aside0.mk (R_setB HO9.out HKN.out o)
              have HNa := Aside0.mk (R_setB HN9.out HKN.out o)
              have hlk := bM_look HIa.out (rd (us l) y)
              by_cases hm : rd (us l) y ∈ us l'
              · rw [decide_eq_true hm] at hlk
                have HT2 := Aside0.mk (hin hm)
                clear hnw hgo hin hout HK2 hm p0 p1 hj hyy1 HV9 HM9 HI9 HKN HO9 HN9 HB9
                go_wp2_with fail
                go_roundg k2
                case measure => omega
                case rel => exact ⟨y1, j + 1, rfl, ⟨by have := HY.out; have := HY1.out; omega⟩, HVa, ⟨by rw [HT2.out]; exact HMa.out⟩, HIa, ⟨by rw [HTK.out]; exact HK3.out⟩, HOa, HNa, HBa⟩
              · rw [decide_eq_false hm] at hlk
                have HT2 := Aside0.mk (hout hm)
                obtain ⟨o2, hput2, HM2⟩ := bM_put HMa.out (rd (us l) y) hgo
                have HMb := Aside0.mk HM2
                have HBb := Aside0.mk (setB_below HBa.out HGM.out o2)
                have HVb := Aside0.mk (HVa.out.setB HMa.out o2)
                have HIb := Aside0.mk (HIa.out.other (Ne.symm HIM.out.1) o2)
                have HKb := Aside0.mk (HK3.out.other (Ne.symm HKM.out.1) o2)
                have HOb := Aside0.mk (R_setB HOa.out HMa.out o2)
                have HNb := Aside0.mk (R_setB HNa.out HMa.out o2)
                clear hnw hgo hin hout HK2 hm p0 p1 hj hyy1 HM2 HV9 HM9 HI9 HKN HO9 HN9 HB9 HVa HMa HIa HK3 HOa HNa HBa
                go_wp2_with fail
                go_roundg k2
                case measure => omega
                case rel => exact ⟨y1, j + 1, rfl, ⟨by have := HY.out; have := HY1.out; omega⟩, HVb, ⟨by rw [HT2.out, ← List.append_assoc]; exact HMb.out⟩, HIb, ⟨by rw [HTK.out]; exact HKb.out⟩, HOb, HNb, HBb⟩
            | zero =>
              have c3b : decide (y < ((us l).length : Int)) = false := decide_eq_false (by have := HY.out; omega)
              have HKN := Aside0.mk (show MI wr km (bM (us l)) by have h := HKN.out; rwa [List.take_of_length_le (by have := HY.out; omega)] at h)
              have HM9 := Aside0.mk (show MI wr gm (bM (gs ++ outs (us l) (us l') (us l).length)) by have h := HM9.out; rwa [show j = (us l).length by have := HY.out; omega] at h)
              go_wp2_with fail
              clear HI9 HO9
              go_loopg [96] (us l').length (fun kq v96 wr => ∃ (y : Int) (j : Nat), v96 = .int .i64 y ∧ Aside0 (y = j ∧ j + kq = (us l').length) ∧ Aside0 (VW w.heap.size wr g v' l' top') ∧ Aside0 (MI wr gm (bM (gs ++ outs (us l) (us l') (us l).length))) ∧ Aside0 (MI wr km (bM (us l))) ∧ Aside0 (IRow wr w.heap.size (.slice An (us l').length cn) (us l')) ∧ Aside0 (Below w.heap.size w wr))
              case atStart => exact ⟨0, 0, rfl, ⟨rfl, by omega⟩, HV9, HM9, HKN, HN9, HB9⟩
              case round =>
                clear HKN HV9 HM9 HN9 HB9
                obtain ⟨y, j, rfl, HY, HV9, HM9, HKN, HN9, HB9⟩ := hrel
                cases gk with
                | succ k2 =>
                  have p1 : y < ((us l').length : Int) := by have := HY.out; omega
                  have p0 : 0 ≤ y := by have := HY.out; omega
                  have c3b : decide (y < ((us l').length : Int)) = true := decide_eq_true p1
                  obtain ⟨ao, rfl, hu⟩ := Kd.at_int (Kd.R_reads' HN9.out).2.2 y p0 p1
                  have hmem := HFC.out.mem _ (rd_memI (us l') j (by have := HY.out; omega))
                  rw [show (j : Int) = y by have := HY.out; omega] at hmem
                  have hpu := eq_true p1
                  have hp0 := eq_true p0
                  obtain ⟨y1, hyy1⟩ : ∃ y1, wrap64 (y + 1) = y1 := ⟨_, rfl⟩
                  have HY1 := Aside0.mk (show y1 = y + 1 by have := HY.out; have := HUL.out; rw [← hyy1]; unfold wrap64; omega)
                  have hyw : IntKind.i64.wrap (y + 1) = y1 := (i64_w _).trans hyy1
                  have hlk := bM_look HKN.out (rd (us l') y)
                  by_cases hm : rd (us l') y ∈ us l
                  · rw [decide_eq_true hm] at hlk
                    clear hmem hm p0 p1 hyy1
                    go_wp2_with fail
                    go_roundg k2
                    case measure => omega
                    case rel => exact ⟨y1, j + 1, rfl, ⟨by have := HY.out; have := HY1.out; omega⟩, HV9, HM9, HKN, HN9, HB9⟩
                  · rw [decide_eq_false hm] at hlk
                    have z0 : decide (rd (us l') y ≤ top) = false := decide_eq_false (by have := hmem.resolve_left hm; omega)
                    clear hmem hm p0 p1 hyy1
                    go_wp2_with fail
                    go_roundg k2
                    case measure => omega
                    case rel => exact ⟨y1, j + 1, rfl, ⟨by have := HY.out; have := HY1.out; omega⟩, HV9, HM9, HKN, HN9, HB9⟩
                | zero =>
                  have c3b : decide (y < ((us l').length : Int)) = false := decide_eq_false (by have := HY.out; omega)
                  have hmx := HFC.out.max (by have := HX.out; omega)
                  go_wp2_with fail
                  refine (viewMax_ok w.heap.size g v' l' top' _ HV9.out (by have := HUL.out; rw [us_len, us_len] at this; omega)).mono ?_
                  rintro e w12 ⟨rfl, n12, rfl⟩
                  replace HV9 := Aside0.mk (HV9.out.drewN n12)
                  replace HM9 := Aside0.mk (HM9.out.drewN n12)
                  replace HB9 := Aside0.mk (pw_below_drewN HB9.out n12)
                  generalize wr.drewN n12 = w12 at HV9 HM9 HB9 ⊢
                  have HMX := Aside0.mk hmx
                  clear hmx
                  go_wp2_with fail
                  all_goals
                    go_roundg k1
                    case measure => omega
                    case rel =>
                      refine ⟨x1, i + 1, v', l', top', gs ++ outs (us l) (us l') (us l).length, rfl, ?_, ⟨by have := HX.out; have := HX1.out; have := HFC.out.len; have := HFC.out.le; have := HLA.out; omega⟩, HV9, ⟨HFC.out.ris⟩, ⟨HM9.out, fun u hu => ?_⟩, HB9⟩
                      · (have h := HMX.out; unfold mx at h; congr 1; split at h <;> omega)
                      · rcases List.mem_append.1 hu with hu | hu
                        · have h1 := HMG.out u hu
                          have := HFC.out.le
                          refine ⟨by omega, fun h => ?_⟩
                          rcases HFC.out.mem u h with h2 | h2
                          · exact h1.2 h2
                          · omega
                        · obtain ⟨h1, h2⟩ := outs_mem _ _ _ _ hu
                          obtain ⟨q, hq, rfl⟩ := us_mem l u h1
                          have := HR.out.top q hq
                          have := HFC.out.le
                          exact ⟨by omega, h2⟩
end Go.Proofs.YtmpngedfnheilaaDoor.PP
