/- YtakfdmhoooeejaaDoorMyWireBack, as far as WireBack needs it (prune.py). -/
import Derived.Test.YtakfdmhoooeejaaDoorWireBackMyWireBytes
import Derived.Test.YtakfdmhoooeejaaDoorWireBackMyWirePieces
namespace Go.Proofs.YtakfdmhoooeejaaDoor.PP
open Go.RowKit Go.Proofs.YtakfdmhoooeejaaDoorW.PrintWords Go.Proofs.YtakfdmhoooeejaaDoorW.PrintLast Go.Proofs.YtakfdmhoooeejaaDoorW.PrintMore
open Go.Proofs.YtakfdmhoooeejaaDoor.My
set_option linter.unusedVariables false
set_option linter.unusedSimpArgs false
/-- One event that lies in a block, over rows that are read. -/
theorem C_evt {W : World} {b : Nat} {k : Int} {xs ys : List ByteArray} {A B : Option Addr} {c d : Nat} (hb : W.heap[b]? = some (.cells #[.int .i64 k, .slice A xs.length c, .slice B ys.length d] 39 (0, 0))) (hx : Kd.C Kd.string W A xs.length xs) (hc : xs.length ≤ c) (hy : Kd.C Kd.string W B ys.length ys) (hd : ys.length ≤ d) :
    Kd.C k39 W (some ⟨b, 0, none⟩) 1 [evt k xs ys] := by
  refine ⟨rfl, by decide, fun hp => ⟨_, rfl, fun j p hj => ?_⟩⟩
  obtain ⟨hj0, hjp⟩ := List.getElem?_eq_some_iff.1 hj
  have hj00 : j = 0 := by simp at hj0; exact hj0
  subst hj00
  simp only [List.getElem_cons_zero] at hjp
  subst hjp
  refine ⟨[.int .i64 k, .slice A xs.length c, .slice B ys.length d], rfl, k39_mk W (evt k xs ys) hc hx hd hy, fun i u hi => ?_⟩
  rw [Nat.zero_mul, Nat.zero_add, add0, cell_of_row W b i _ _ (0, 0) hb]
  rw [← hi]
  simp
set_option maxHeartbeats 8000000 in
set_option maxRecDepth 100000 in
theorem haversacklaw13_WireBack.holds (cs0 : Array Value) (x0 : S37) (cs1 : Array Value) (x1 : S37) (w : World) (hk0 : k37.K w x0 cs0.toList) (wx0 : Q37 x0) (hk1 : k37.K w x1 cs1.toList) (wx1 : Q37 x1) (hT : Tabs w) :
    Calls Tryd.prog 7 #[.agg cs0, .agg cs1] w fun e w' => e = .returned (.bool true) ∧ Below w.heap.size w w' := by
  obtain ⟨A0, c0, A1, c1, hcs, hc0, hr0, hc1, hr1⟩ := k37_open hk0
  obtain rfl : cs0 = #[.slice A0 x0.f0.length c0, .slice A1 x0.f1.length c1] := by rw [← Array.toArray_toList (xs := cs0), hcs]
  obtain ⟨A2, c2, A3, c3, hcs1, hc2, hr2, hc3, hr3⟩ := k37_open hk1
  obtain rfl : cs1 = #[.slice A2 x1.f0.length c2, .slice A3 x1.f1.length c3] := by rw [← Array.toArray_toList (xs := cs1), hcs1]
  obtain ⟨ts, ls⟩ := x0
  obtain ⟨us, ms⟩ := x1
  dsimp only at hc0 hr0 hc1 hr1 hc2 hr2 hc3 hr3 ⊢
  obtain ⟨fw, hfe, hfp⟩ := few_ev ts ls
  obtain ⟨kf, hkf⟩ := hfe.ex
  have HKF := Aside0.mk hkf
  have HFP := Aside0.mk hfp
  obtain ⟨fv, hge, hgp⟩ := few_ev us ms
  obtain ⟨kg, hkg⟩ := hge.ex
  have HKG := Aside0.mk hkg
  have HGP := Aside0.mk hgp
  have HR0 := Aside0.mk (And.intro hr0 hc0)
  have HR1 := Aside0.mk (And.intro hr1 hc1)
  have HR2 := Aside0.mk (And.intro hr2 hc2)
  have HR3 := Aside0.mk (And.intro hr3 hc3)
  have HT := Aside0.mk hT
  clear hk0 wx0 hcs hfe hkf hfp hr0 hc0 hr1 hc1 hT hk1 wx1 hcs1 hge hkg hgp hr2 hc2 hr3 hc3
  go_enter Tryd.func7, Tryd.ntmps7
  go_wp2_with fail
  obtain ⟨g, hg⟩ : ∃ g, g = w.heap.size := ⟨_, rfl⟩
  obtain ⟨w1, hw1⟩ : ∃ W, W = ((w.alloc (.cells #[.slice A0 ts.length c0, .slice A1 ls.length c1] 37)).alloc (.cells #[.slice A2 us.length c2, .slice A3 ms.length c3] 37)) := ⟨_, rfl⟩
  have hW0 : w1.heap[g]? = some (.cells #[.slice A0 ts.length c0, .slice A1 ls.length c1] 37 (0, 0)) := by rw [hw1, hg]; exact (Below.heap_alloc _ _ _ (by rw [sz_alloc]; omega)).trans (blk_new _ _)
  have hW1 : w1.heap[g + 1]? = some (.cells #[.slice A2 us.length c2, .slice A3 ms.length c3] 37 (0, 0)) := by
    have h := blk_new (w.alloc (.cells #[.slice A0 ts.length c0, .slice A1 ls.length c1] 37)) (.cells #[.slice A2 us.length c2, .slice A3 ms.length c3] 37)
    rw [sz_alloc] at h
    rw [hw1, hg]; exact h
  have hB0 : Below w.heap.size w w1 := by rw [hw1]; exact below_alloc (below_alloc (Below.refl _ _) _) _
  rw [← hg, ← hw1]
  have HB1 := Aside0.mk hB0
  have HC1 := Aside0.mk (And.intro hW0 hW1)
  clear hg hB0 hW0 hW1 hw1
  refine (haversacklaw13_few.calls kf A0 c0 ts A1 c1 ls fw _ (Kd.C_below HR0.out.1 HB1.out) HR0.out.2 (Kd.C_below HR1.out.1 HB1.out) HR1.out.2 HKF.out).mono ?_
  rintro e w2 ⟨rfl, hb2⟩
  have HC2 := Aside0.mk (And.intro ((hb2.block g (Array.getElem?_eq_some_iff.1 HC1.out.1).1).trans HC1.out.1) ((hb2.block (g + 1) (Array.getElem?_eq_some_iff.1 HC1.out.2).1).trans HC1.out.2))
  have HB2 := Aside0.mk (HB1.out.trans (hb2.mono HB1.out.size))
  clear hb2
  cases fw with
  | false =>
    go_wp2_with fail
    refine (alive_ok _).mono ?_
    rintro e w3 ⟨rfl, hb⟩
    have HB := Aside0.mk (HB2.out.trans (hb.mono HB2.out.size))
    clear hb
    go_wp2_with fail
    go_ret
    exact ⟨rfl, HB.out⟩
  | true =>
    have HF := Aside0.mk (HFP.out rfl)
    clear HFP
    have k0 := (blk_cell HC2.out.2 0).trans (show _ = some (Value.slice A2 us.length c2) from rfl)
    have k1 := (blk_cell HC2.out.2 1).trans (show _ = some (Value.slice A3 ms.length c3) from rfl)
    go_wp2_with fail
    refine (haversacklaw13_few.calls kg A2 c2 us A3 c3 ms fv _ (Kd.C_below HR2.out.1 HB2.out) HR2.out.2 (Kd.C_below HR3.out.1 HB2.out) HR3.out.2 HKG.out).mono ?_
    rintro e w3 ⟨rfl, hb3⟩
    have HC3 := Aside0.mk (And.intro ((hb3.block g (Array.getElem?_eq_some_iff.1 HC2.out.1).1).trans HC2.out.1) ((hb3.block (g + 1) (Array.getElem?_eq_some_iff.1 HC2.out.2).1).trans HC2.out.2))
    have HB3 := Aside0.mk (HB2.out.trans (hb3.mono HB2.out.size))
    clear hb3 k0 k1
    cases fv with
    | false =>
      go_wp2_with fail
      refine (alive_ok _).mono ?_
      rintro e w4 ⟨rfl, hb⟩
      have HB := Aside0.mk (HB3.out.trans (hb.mono HB3.out.size))
      clear hb
      go_wp2_with fail
      go_ret
      exact ⟨rfl, HB.out⟩
    | true =>
      have HGG := Aside0.mk (HGP.out rfl)
      clear HGP
      go_wp2_with fail
      refine (new_ok _).mono ?_
      rintro e w4 ⟨rfl, hw4, hb4⟩
      obtain ⟨fb, hfb⟩ : ∃ fb, fb = w3.heap.size := ⟨_, rfl⟩
      rw [← hfb] at hw4 ⊢
      have HFB := Aside0.mk hfb
      have HF4 := Aside0.mk hw4
      have HB4 := Aside0.mk (HB3.out.trans (hb4.mono HB3.out.size))
      have HC4 := Aside0.mk (And.intro ((hb4.block g (Array.getElem?_eq_some_iff.1 HC3.out.1).1).trans HC3.out.1) ((hb4.block (g + 1) (Array.getElem?_eq_some_iff.1 HC3.out.2).1).trans HC3.out.2))
      have HN := Aside0.mk (show w.heap.size ≤ fb by rw [hfb]; exact HB3.out.size)
      clear hw4 hb4 hfb
      have k0 := (blk_cell HC4.out.1 0).trans (show _ = some (Value.slice A0 ts.length c0) from rfl)
      have k1 := (blk_cell HC4.out.1 1).trans (show _ = some (Value.slice A1 ls.length c1) from rfl)
      have k2 := (blk_cell HC4.out.2 0).trans (show _ = some (Value.slice A2 us.length c2) from rfl)
      have k3 := (blk_cell HC4.out.2 1).trans (show _ = some (Value.slice A3 ms.length c3) from rfl)
      go_upto_region 5 with fail
      obtain ⟨bk, hbk⟩ : ∃ b, b = w4.heap.size := ⟨_, rfl⟩
      obtain ⟨ad, had⟩ : ∃ ad, ad = (⟨bk, 0, none⟩ : Addr) := ⟨_, rfl⟩
      have hW5 : (w4.alloc (.cells #[.slice A2 us.length c2, .slice A3 ms.length c3, .slice A0 ts.length c0, .slice A1 ls.length c1] 37)).heap[bk]? = some (.cells #[.slice A2 us.length c2, .slice A3 ms.length c3, .slice A0 ts.length c0, .slice A1 ls.length c1] 37 (0, 0)) := by rw [hbk]; exact blk_new _ _
      have hb5 : Below w4.heap.size w4 (w4.alloc (.cells #[.slice A2 us.length c2, .slice A3 ms.length c3, .slice A0 ts.length c0, .slice A1 ls.length c1] 37)) := below_alloc (Below.refl _ _) _
      rw [← hbk, ← had]
      generalize (w4.alloc (.cells #[.slice A2 us.length c2, .slice A3 ms.length c3, .slice A0 ts.length c0, .slice A1 ls.length c1] 37)) = w5 at hW5 hb5 ⊢
      have HF5 := Aside0.mk (HF4.out.below hb5)
      have HB5 := Aside0.mk (HB4.out.trans (hb5.mono HB4.out.size))
      have HK5 := Aside0.mk (show w5.heap[bk]? = some (.cells #[.slice A2 us.length c2, .slice A3 ms.length c3, .slice A0 ts.length c0, .slice A1 ls.length c1] 37 (0, 0)) ∧ ¬ FB fb vnil bk from ⟨hW5, fun hf => by have := FB_nil fb bk hf; have := HF4.out.lt; omega⟩)
      have HAD := Aside0.mk had
      clear hW5 hb5 k0 k1 k2 k3 HC4 HC3 HC2 HC1 HB4 HF4 hbk had HB1 HB2 HB3 HKF HKG
      go_loopg [23] 2 (fun kq v23 wr => ∃ (x : Int) (i : Nat) (V : FV), v23 = .int .i64 x ∧ Aside0 (x = i ∧ i + kq = 2) ∧ Aside0 (FW fb wr fb V fs0) ∧ Aside0 (wr.heap[bk]? = some (.cells #[.slice A2 us.length c2, .slice A3 ms.length c3, .slice A0 ts.length c0, .slice A1 ls.length c1] 37 (0, 0)) ∧ ¬ FB fb V bk) ∧ Aside0 (Below w.heap.size w wr))
      case atStart => exact ⟨0, 0, vnil, rfl, ⟨rfl, rfl⟩, HF5, HK5, HB5⟩
      case round =>
        obtain ⟨x, i, V, rfl, HX, HV, HK, HB⟩ := hrel
        clear HF5 HK5 HB5
        cases gk with
        | zero =>
          have c1b : decide (x < (2 : Int)) = false := decide_eq_false (by have := HX.out; omega)
          go_wp2_with fail
          refine (alive_ok _).mono ?_
          rintro e w6 ⟨rfl, hb⟩
          have HB6 := Aside0.mk (HB.out.trans (hb.mono HB.out.size))
          clear hb
          go_wp2_with fail
          go_ret
          exact ⟨rfl, HB6.out⟩
        | succ kk1 =>
          have z1 : x < (2 : Int) := by have := HX.out; omega
          have z0 : 0 ≤ x := by have := HX.out; omega
          have c1b : decide (x < (2 : Int)) = true := decide_eq_true z1
          have z0b := eq_true z0
          have z1b := eq_true z1
          obtain ⟨A, c, xs, B, d, ys, hx0, hx1, hcc, hl⟩ : ∃ (A : Option Addr) (c : Nat) (xs : List ByteArray) (B : Option Addr) (d : Nat) (ys : List ByteArray), wr.cell? (ad.add (x.toNat * 2)) = some (.slice A xs.length c) ∧ wr.cell? ⟨(ad.add (x.toNat * 2)).block, (ad.add (x.toNat * 2)).off + 1, none⟩ = some (.slice B ys.length d) ∧ (∀ W, Below w.heap.size w W → Kd.C Kd.string W A xs.length xs ∧ Kd.C Kd.string W B ys.length ys) ∧ (xs.length ≤ c ∧ ys.length ≤ d ∧ xs.length ≤ 40 ∧ ys.length ≤ 40 ∧ szs xs + szs ys ≤ 20000) := by
            rw [HAD.out, add0]
            have h01 : x.toNat = 0 ∨ x.toNat = 1 := by omega
            rcases h01 with h | h
            · rw [h]
              exact ⟨A2, c2, us, A3, c3, ms, (blk_cell HK.out.1 0).trans rfl, (blk_cell HK.out.1 1).trans rfl, fun W hb => ⟨Kd.C_below HR2.out.1 hb, Kd.C_below HR3.out.1 hb⟩, HR2.out.2, HR3.out.2, HGG.out⟩
            · rw [h]
              exact ⟨A0, c0, ts, A1, c1, ls, (blk_cell HK.out.1 2).trans rfl, (blk_cell HK.out.1 3).trans rfl, fun W hb => ⟨Kd.C_below HR0.out.1 hb, Kd.C_below HR1.out.1 hb⟩, HR0.out.2, HR1.out.2, HF.out⟩
          have HCC := Aside0.mk hcc
          have HL := Aside0.mk hl
          clear z0 z1 hcc hl
          obtain ⟨cl, hce, hcp⟩ := clean_ev xs ys (fun t ht => by have := szs_mem ht; have := HL.out; omega) (by have := HL.out; omega)
          obtain ⟨kc, hkc⟩ := hce.ex
          have HKC := Aside0.mk hkc
          have HCP := Aside0.mk hcp
          clear hce hkc hcp
          go_wp2_with fail
          obtain ⟨px, hpx⟩ : ∃ p, p = wr.heap.size := ⟨_, rfl⟩
          have hWx : (wr.alloc (.cells #[.slice A xs.length c, .slice B ys.length d] 37)).heap[px]? = some (.cells #[.slice A xs.length c, .slice B ys.length d] 37 (0, 0)) := by rw [hpx]; exact blk_new _ _
          have hbx : Below wr.heap.size wr (wr.alloc (.cells #[.slice A xs.length c, .slice B ys.length d] 37)) := below_alloc (Below.refl _ _) _
          rw [← hpx]
          generalize (wr.alloc (.cells #[.slice A xs.length c, .slice B ys.length d] 37)) = w6 at hWx hbx ⊢
          have HK6 := Aside0.mk (show w6.heap[bk]? = some (.cells #[.slice A2 us.length c2, .slice A3 ms.length c3, .slice A0 ts.length c0, .slice A1 ls.length c1] 37 (0, 0)) ∧ ¬ FB fb V bk from ⟨(hbx.block bk (Array.getElem?_eq_some_iff.1 HK.out.1).1).trans HK.out.1, HK.out.2⟩)
          have HV6 := Aside0.mk (HV.out.below hbx)
          have HB6 := Aside0.mk (HB.out.trans (hbx.mono HB.out.size))
          have HP6 := Aside0.mk (show w6.heap[px]? = some (.cells #[.slice A xs.length c, .slice B ys.length d] 37 (0, 0)) ∧ ¬ FB fb V px from ⟨hWx, fun hf => by have := HV.out.fb_lt px hf; omega⟩)
          clear hWx hbx hpx HK HV HB hx0 hx1 z0b z1b
          refine (haversacklaw13_clean.calls kc A c xs B d ys cl _ (HCC.out _ HB6.out).1 HL.out.1 (HCC.out _ HB6.out).2 HL.out.2.1 HKC.out).mono ?_
          rintro e w7 ⟨rfl, hb7⟩
          have HK7 := Aside0.mk (show w7.heap[bk]? = some (.cells #[.slice A2 us.length c2, .slice A3 ms.length c3, .slice A0 ts.length c0, .slice A1 ls.length c1] 37 (0, 0)) ∧ ¬ FB fb V bk from ⟨(hb7.block bk (Array.getElem?_eq_some_iff.1 HK6.out.1).1).trans HK6.out.1, HK6.out.2⟩)
          have HV7 := Aside0.mk (HV6.out.below hb7)
          have HB7 := Aside0.mk (HB6.out.trans (hb7.mono HB6.out.size))
          have HP7 := Aside0.mk (show w7.heap[px]? = some (.cells #[.slice A xs.length c, .slice B ys.length d] 37 (0, 0)) ∧ ¬ FB fb V px from ⟨(hb7.block px (Array.getElem?_eq_some_iff.1 HP6.out.1).1).trans HP6.out.1, HP6.out.2⟩)
          clear hb7 HK6 HV6 HB6 HP6
          cases cl with
          | false =>
            go_wp2_with fail
            go_roundg kk1
            case measure => omega
            case rel => exact ⟨wrap64 (x + 1), i + 1, V, rfl, ⟨by have := HX.out; unfold wrap64; omega⟩, HV7, HK7, HB7⟩
          | true =>
            have HCL := Aside0.mk (HCP.out rfl)
            have k0 := (blk_cell HP7.out.1 0).trans (show _ = some (Value.slice A xs.length c) from rfl)
            have k1 := (blk_cell HP7.out.1 1).trans (show _ = some (Value.slice B ys.length d) from rfl)
            clear HCP
            go_wp2_with fail
            refine (bytes_ok A c xs B d ys _ (HCC.out _ HB7.out).1 (HCC.out _ HB7.out).2 (HT.out.below HB7.out) HL.out.2.2.1 HL.out.2.2.2.1 HL.out.2.2.2.2).mono ?_
            rintro e w8 ⟨rfl, hb8⟩
            rw [show bytesS xs ys = rawL xs ys by unfold bytesS; rw [if_pos HCL.out.1]]
            have HLN := Aside0.mk (rawL_len xs ys (fun l hl => by have := szs_mem hl; have := HL.out; omega))
            have HTK := Aside0.mk (show takeS fs0 (rawL xs ys) = (fs0, [evt 1 xs ys]) from take_raw xs ys [] [] 0 HCL.out.1 HCL.out.2.2.1 (fun l hl => by have := szs_mem hl; have := HL.out; omega) (by have := HCL.out; simp; omega) (by omega) (by have := HCL.out; omega))
            have HK8 := Aside0.mk (show w8.heap[bk]? = some (.cells #[.slice A2 us.length c2, .slice A3 ms.length c3, .slice A0 ts.length c0, .slice A1 ls.length c1] 37 (0, 0)) ∧ ¬ FB fb V bk from ⟨(hb8.block bk (Array.getElem?_eq_some_iff.1 HK7.out.1).1).trans HK7.out.1, HK7.out.2⟩)
            have HV8 := Aside0.mk (HV7.out.below hb8)
            have HB8 := Aside0.mk (HB7.out.trans (hb8.mono HB7.out.size))
            have HP8 := Aside0.mk (show w8.heap[px]? = some (.cells #[.slice A xs.length c, .slice B ys.length d] 37 (0, 0)) ∧ ¬ FB fb V px from ⟨(hb8.block px (Array.getElem?_eq_some_iff.1 HP7.out.1).1).trans HP7.out.1, HP7.out.2⟩)
            clear hb8 HK7 HV7 HB7 HP7 k0 k1
            have HRL := Aside0.mk (show (rawL xs ys).length ≤ 21000 by have := HLN.out; have := HL.out; omega)
            generalize rawL xs ys = L at HTK HRL ⊢
            have hcv := bytes_run w8 (str L)
            go_wp2_with fail
            clear hcv
            have hba := below_bytesW w8 5 (str L)
            have hsz := Lib.bytesWorld_size w8 5 (str L)
            refine (take_ok fb fb _ (fun k => k = w8.heap.size) _ V fs0 _ _ L (HV8.out.below hba) Inv.zero (by have := HV8.out.lt; omega) rfl (by have := HRL.out; omega) (F_bytes w8 L (by have := HRL.out; omega)) (fun k hk hf => by have := HV8.out.fb_lt k hf; omega)).mono ?_
            rintro e w9 ⟨vo, V2, rfl, he, hw, hx⟩
            rw [HTK.out] at he hw
            have HE9 := Aside0.mk he
            have HV9 := Aside0.mk hw
            have HK9 := Aside0.mk (show w9.heap[bk]? = some (.cells #[.slice A2 us.length c2, .slice A3 ms.length c3, .slice A0 ts.length c0, .slice A1 ls.length c1] 37 (0, 0)) ∧ ¬ FB fb V2 bk from by
              have hlt := (Array.getElem?_eq_some_iff.1 HK8.out.1).1
              refine ⟨(hx.kept.2 bk (by omega) HK8.out.2).trans ((hba.block bk hlt).trans HK8.out.1), fun hf => ?_⟩
              rcases hx.own bk hf with h | h
              · exact HK8.out.2 h
              · omega)
            have hp9 : w9.heap[px]? = some (.cells #[.slice A xs.length c, .slice B ys.length d] 37 (0, 0)) := by
              have hlt := (Array.getElem?_eq_some_iff.1 HP8.out.1).1
              exact (hx.kept.2 px (by omega) HP8.out.2).trans ((hba.block px hlt).trans HP8.out.1)
            have HB9 := Aside0.mk (show Below w.heap.size w w9 from (HB8.out.trans (hba.mono HB8.out.size)).trans (hx.bel.mono HN.out))
            clear he hw hx hba hsz HK8 HP8 HV8 HB8
            have k0 := (blk_cell hp9 0).trans (show _ = some (Value.slice A xs.length c) from rfl)
            have k1 := (blk_cell hp9 1).trans (show _ = some (Value.slice B ys.length d) from rfl)
            obtain ⟨Ao, co, eo⟩ := Kd.N_slice HE9.out
            subst eo
            clear hp9
            go_wp2_with fail
            obtain ⟨pe, hpe⟩ : ∃ p, p = w9.heap.size := ⟨_, rfl⟩
            have hWe : (w9.alloc (.cells #[.int .i64 1, .slice A xs.length c, .slice B ys.length d] 39)).heap[pe]? = some (.cells #[.int .i64 1, .slice A xs.length c, .slice B ys.length d] 39 (0, 0)) := by rw [hpe]; exact blk_new _ _
            have hbe : Below w9.heap.size w9 (w9.alloc (.cells #[.int .i64 1, .slice A xs.length c, .slice B ys.length d] 39)) := below_alloc (Below.refl _ _) _
            rw [← hpe]
            generalize (w9.alloc (.cells #[.int .i64 1, .slice A xs.length c, .slice B ys.length d] 39)) = w10 at hWe hbe ⊢
            have HB10 := HB9.out.trans (hbe.mono HB9.out.size)
            have hce := C_evt hWe (HCC.out _ HB10).1 HL.out.1 (HCC.out _ HB10).2 HL.out.2.1
            have ho := Kd.N_reads' (Kd.N_below HE9.out hbe)
            obtain ⟨ks, hks⟩ := (same_ev [evt 1 xs ys] (by simp) (fun z hz => by rw [List.mem_singleton.1 hz]; have := HL.out; simp [evt]; omega)).ex
            refine (haversackref13_Same.calls ks Ao co [evt 1 xs ys] _ 1 [evt 1 xs ys] true _ ho.2.2 ho.2.1 hce (Nat.le_refl 1) hks).mono ?_
            rintro e w11 ⟨rfl, hb11⟩
            have hb911 := hbe.trans (hb11.mono hbe.size)
            have HV11 := Aside0.mk (HV9.out.below hb911)
            have HK11 := Aside0.mk (show w11.heap[bk]? = some (.cells #[.slice A2 us.length c2, .slice A3 ms.length c3, .slice A0 ts.length c0, .slice A1 ls.length c1] 37 (0, 0)) ∧ ¬ FB fb V2 bk from ⟨(hb911.block bk (Array.getElem?_eq_some_iff.1 HK9.out.1).1).trans HK9.out.1, HK9.out.2⟩)
            have HB11 := Aside0.mk (HB9.out.trans (hb911.mono HB9.out.size))
            clear hb911 hb11 hbe hWe hce ho hks HB10 HE9 HV9 HK9 HB9 hpe k0 k1
            go_wp2_with fail
            refine (idle_ok fb fb _ V2 fs0 HV11.out).mono ?_
            rintro e w12 ⟨rfl, rfl⟩
            rw [show idleS fs0 = true from rfl]
            go_wp2_with fail
            go_roundg kk1
            case measure => omega
            case rel => exact ⟨wrap64 (x + 1), i + 1, V2, rfl, ⟨by have := HX.out; unfold wrap64; omega⟩, HV11, HK11, HB11⟩
end Go.Proofs.YtakfdmhoooeejaaDoor.PP
