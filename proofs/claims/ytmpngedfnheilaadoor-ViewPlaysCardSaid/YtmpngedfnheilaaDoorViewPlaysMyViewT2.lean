/- YtmpngedfnheilaaDoorMyViewT2, as far as ViewPlays needs it (prune.py). -/
import Derived.Deep.Cut
import Derived.Deep.CutRange
import Derived.Deep.CutBlock
import Derived.Test.YtmpngedfnheilaaDoorViewPlaysMyViewT
namespace Go.Proofs.YtmpngedfnheilaaDoor.PP
open Go.RowKit Go.Proofs.YtmpngedfnheilaaDoorW.PrintWords Go.Proofs.YtmpngedfnheilaaDoorW.PrintLast Go.Proofs.YtmpngedfnheilaaDoorW.PrintMore
open Go.Proofs.YtmpngedfnheilaaDoor.My
set_option linter.unusedVariables false
set_option linter.unusedSimpArgs false
set_option maxHeartbeats 8000000 in
set_option maxRecDepth 100000 in
theorem viewSyncK_ok (FL : List ByteArray → List ByteArray) (kf N0 g : Nat) (v : Value) (l : List Pl) (top : Int) (q : Bool) (P : Nat → Prop) (A : Option Addr) (c : Nat) (ms : List Ml) (w : World) (h : VW N0 w g v l top) (hr : Ris l top)
    (hF : Kd.F k43 w P A ms.length ms) (hP : ∀ k, P k → k < w.heap.size → ¬ VS g v k) (hK : ∀ m ∈ ms, search_Flags.f kf m.f1 = some (FL m.f1)) (hl : l.length + ms.length ≤ 1000000) (S : Nat → Prop) (hS : ∀ k, VS g v k → S k) :
    Calls Tryd.prog 17 #[.pointer (some ⟨g, 0, none⟩), .bool q, .slice A ms.length c] w fun e w' => ∃ (v' vo : Value), e = .returned vo ∧ TRow w' w.heap.size vo (syncL FL q (risL ms 0) l top).2 ∧ VW N0 w' g v' (syncL FL q (risL ms 0) l top).1.1 (syncL FL q (risL ms 0) l top).1.2 ∧ Below N0 w w' ∧ Kept w w' S := by
  have HSS := Aside0.mk hS
  clear hS
  have HV := Aside0.mk h
  have HF := Aside0.mk hF
  have HP := Aside0.mk hP
  have HK := Aside0.mk hK
  have HL := Aside0.mk hl
  have HRI := Aside0.mk hr
  clear h hF hP hK hl hr
  go_enter Tryd.func17, Tryd.ntmps17
  go_wp2_with fail
  refine (rising_ok P A c ms _ HF.out (by have := HL.out; omega)).mono ?_
  rintro e w1 ⟨v0, rfl, hn, hb1⟩
  obtain ⟨A2, c2, e2⟩ := Kd.N_slice hn
  subst e2
  have hv1 := HV.out.below hb1
  obtain ⟨ls, hls⟩ : ∃ ls, ls = risL ms 0 := ⟨_, rfl⟩
  rw [← hls] at hn ⊢
  have HLS := Aside0.mk hls
  have HN := Aside0.mk (Kd.N_F hn)
  have HB1 := Aside0.mk hb1
  have HV1 := Aside0.mk hv1
  clear hn hb1 hv1 hls
  have hmk : ∀ (t : Nat) (u : World), (Instr.makeMap t none).run Tryd.prog u = .ok (.map (some u.heap.size)) (u.alloc (.map #[] 0)) := fun t u => rfl
  go_wp2_with fail
  obtain ⟨W3, hW3⟩ : ∃ W3, W3 = (w1.alloc (.map #[] 0)).alloc (.map #[] 0) := ⟨_, rfl⟩
  rw [← hW3]
  obtain ⟨mf, hmf⟩ : ∃ mf, mf = w1.heap.size := ⟨_, rfl⟩
  rw [← hmf]
  obtain ⟨mt, hmt⟩ : ∃ mt, mt = mf + 1 := ⟨_, rfl⟩
  rw [← hmt]
  have hmi1 : MI W3 mf [] := by rw [hW3, hmf]; exact (MI.alloc0 w1).keep (Below.heap_alloc _ _ _ (by rw [sz_alloc]; omega))
  have hmi2 : MI W3 mt [] := by rw [hW3, hmt, hmf, ← sz_alloc (w := w1) (o := .map #[] 0)]; exact MI.alloc0 _
  have hb3 : Below w1.heap.size w1 W3 := by rw [hW3]; exact below_alloc (below_alloc (Below.refl _ _) _) _
  have hs3 : W3.heap.size = w1.heap.size + 2 := by rw [hW3, sz_alloc, sz_alloc]
  clear hmk hW3
  have HM := Aside0.mk (show mf = w1.heap.size ∧ mt = w1.heap.size + 1 by omega)
  have HMI1 := Aside0.mk hmi1
  have HMI2 := Aside0.mk hmi2
  have HB3 := Aside0.mk hb3
  clear hmf hmt hmi1 hmi2 hb3 hs3
  go_loopg [24] ls.length (fun kq v24 wr => ∃ (x : Int) (i : Nat) (pf : List (Int × Value)), v24 = .int .i64 x ∧ Aside0 (x = i ∧ i + kq = ls.length) ∧ Aside0 (FM FL wr w1.heap.size pf (ls.take i)) ∧ Aside0 (MI wr mf pf) ∧ Aside0 (MI wr mt (thereM (ls.take i))) ∧ Aside0 (Below w1.heap.size w1 wr ∧ mt < wr.heap.size))
  case atStart => exact ⟨0, 0, [], rfl, ⟨rfl, by omega⟩, ⟨trivial⟩, HMI1, HMI2, ⟨HB3.out, (by obtain ⟨es, h, _⟩ := HMI2.out; exact (Array.getElem?_eq_some_iff.1 h).1)⟩⟩
  case round =>
    obtain ⟨x, i, pf, rfl, HX, HFM, HA, HT, HB⟩ := hrel
    clear HMI1 HMI2 HB3
    cases gk with
    | zero =>
      have c1b : decide (x < (ls.length : Int)) = false := decide_eq_false (by have := HX.out; omega)
      rw [show ls.take i = ls from List.take_of_length_le (by have := HX.out; omega)] at HFM HT
      have hvr := HV1.out.below HB.out.1
      obtain ⟨A0, c0, rfl, _, _⟩ := hvr.slice
      have hc0 := hvr.cell0
      have hlt := hvr.lt
      have hge := hvr.ge
      obtain ⟨j0, hj0⟩ : ∃ j0, wrap64 ((l.length : Int) - 1) = j0 := ⟨_, rfl⟩
      have hj1 : j0 = (l.length : Int) - 1 := by have := HL.out; rw [← hj0]; unfold wrap64; omega
      have hjw : IntKind.i64.wrap ((l.length : Int) - 1) = j0 := (i64_w _).trans hj0
      have HVR := Aside0.mk hvr
      have HBR := Aside0.mk (show Below N0 w wr from (HB1.out.mono (by have := HV.out.lt; have := HV.out.ge; omega)).trans (HB.out.1.mono (by have := HV1.out.lt; have := HV1.out.ge; omega)))
      have HKR := Aside0.mk (show Kept w1 wr (VS g (.slice A0 l.length c0)) from Kept.of_below HB.out.1 _)
      have HJ := Aside0.mk hj1
      clear hvr hlt hge hj0 hj1
      have HMF := Aside0.mk (show MI wr mf pf ∧ MI wr mt (thereM ls) ∧ FM FL wr w1.heap.size pf ls from ⟨HA.out, HT.out, HFM.out⟩)
      have HMB := Aside0.mk (show mt < wr.heap.size ∧ w1.heap.size ≤ wr.heap.size from ⟨HB.out.2, HB.out.1.size⟩)
      go_upto_block 2 with fail
      go_cut [12] from 47 to 85 (fun v12 w2 => ∃ (l2 : List Pl) (out : List Tl), Aside0 ((l2, out) = if q = true then (l, []) else expL ls l.length l []) ∧ Aside0 (l2.length ≤ l.length ∧ out.length ≤ l.length) ∧ Aside0 (VW N0 w2 g (.slice A0 l2.length c0) l2 top) ∧ Aside0 (SX FL w2 w1.heap.size v12 out mf mt pf ls w1.heap.size) ∧ Aside0 (Below N0 w w2 ∧ w1.heap.size ≤ w2.heap.size) ∧ Aside0 (Kept w1 w2 (VS g (.slice A0 l.length c0))))
      case first =>
        go_wp2_with fail
        clear hc0
        go_loopg [12, 13] l.length (fun kq v12 v13 w2 => ∃ (n : Nat) (j : Int) (l2 : List Pl) (out : List Tl), v13 = .int .i64 j ∧ Aside0 (j = (n : Int) - 1 ∧ n ≤ kq ∧ n ≤ l2.length ∧ l2.length ≤ l.length ∧ out.length + n ≤ l.length) ∧ Aside0 ((if q = true then (l2, out) else expL ls n l2 out) = (if q = true then (l, []) else expL ls l.length l [])) ∧ Aside0 (VW N0 w2 g (.slice A0 l2.length c0) l2 top) ∧ Aside0 (SX FL w2 w1.heap.size v12 out mf mt pf ls w1.heap.size) ∧ Aside0 (Below N0 w w2 ∧ w1.heap.size ≤ w2.heap.size) ∧ Aside0 (Kept w1 w2 (VS g (.slice A0 l.length c0))))
        case atStart => exact ⟨l.length, j0, l, [], rfl, ⟨HJ.out, Nat.le_refl _, Nat.le_refl _, Nat.le_refl _, by simp⟩, ⟨rfl⟩, HVR, ⟨⟨TN.nil _ _ _ _, HMF.out.1, HMF.out.2.1, HMF.out.2.2⟩⟩, ⟨HBR.out, HMB.out.2⟩, HKR⟩
        case round =>
          obtain ⟨n, j, l2, out, rfl, HN2, HE2, HV2, HS2, HB2, HK2⟩ := hrel
          clear HMF HBR HKR HVR HFM HA HT
          by_cases hstop : q = true ∨ n = 0
          · have HR := Aside0.mk (show Aside0 ((l2, out) = if q = true then (l, []) else expL ls l.length l []) ∧ Aside0 (l2.length ≤ l.length ∧ out.length ≤ l.length) from ⟨⟨by
              rw [← HE2.out]
              split
              · rfl
              · rename_i hq
                have : n = 0 := hstop.elim (fun h => absurd h hq) id
                rw [this]; rfl⟩, ⟨HN2.out.2.2.2.1, by have := HN2.out; omega⟩⟩)
            clear HE2
            cases hd : decide (0 ≤ j) with
            | false =>
              clear hstop
              go_wp2_with fail
              go_meet
              case rel => exact ⟨l2, out, HR.out.1, HR.out.2, HV2, HS2, HB2, HK2⟩
            | true =>
              have hq : q = true := hstop.elim id (fun h => by have := of_decide_eq_true hd; have := HN2.out.1; omega)
              subst hq
              clear hstop
              go_wp2_with fail
              go_meet
              case rel => exact ⟨l2, out, HR.out.1, HR.out.2, HV2, HS2, HB2, HK2⟩
          · obtain ⟨hq, hn⟩ : q = false ∧ n ≠ 0 := ⟨(match q, hstop with | false, _ => rfl | true, h => absurd (.inl rfl) h), fun h => hstop (.inr h)⟩
            subst hq
            obtain ⟨n1, rfl⟩ : ∃ n1, n = n1 + 1 := ⟨n - 1, by omega⟩
            cases gk with
            | zero => exact absurd HN2.out.2.1 (by omega)
            | succ k2 =>
              have p0 : 0 ≤ j := by have := HN2.out; omega
              have p1 : j < (l2.length : Int) := by have := HN2.out; omega
              have p0c : decide (0 ≤ j) = true := decide_eq_true p0
              have HJN := Aside0.mk (show j.toNat = n1 by have := HN2.out; omega)
              obtain ⟨ad, A3, c3, e3, hx0, hx1, _, _⟩ := at_T74 (Kd.N_reads' HV2.out.row).2.2 j p0 p1
              subst e3
              have hc2 := HV2.out.cell0
              have hlk := fun (x : Int) => (HS2.out.there.lookup Tryd.underlying29 Tryd.underlying3 (z := .bool false) (by rfl) x).trans (by rw [getI_thereU x ls])
              have hE := HE2.out
              rw [if_neg (by decide), expL, show ((n1 : Nat) : Int) = j by have := HN2.out; omega] at hE
              replace p0 := eq_true p0
              replace p1 := eq_true p1
              cases hu : inU ls (rd_T74 l2 j).f0 with
              | true =>
                have hlk1 := (hlk (rd_T74 l2 j).f0).trans (by rw [hu])
                rw [hu, if_pos rfl] at hE
                have HE3 := Aside0.mk hE
                clear hE hlk
                go_wp2_with fail
                go_roundg k2
                case measure => omega
                case rel => exact ⟨n1, wrap64 (j - 1), l2, out, rfl, ⟨by have := HN2.out; have := HL.out; unfold wrap64; omega⟩, ⟨by rw [if_neg (by decide)]; exact HE3.out⟩, HV2, HS2, HB2, HK2⟩
              | false =>
                have hlk1 := (hlk (rd_T74 l2 j).f0).trans (by rw [hu])
                rw [hu, if_neg (by decide)] at hE
                have HE3 := Aside0.mk hE
                obtain ⟨r, cap, ev, hrb, hrl, cells, hrh⟩ := Kd.N_form HV2.out.row (by have := HN2.out; omega)
                injection ev with ev1 _ ev3
                injection ev1 with ev1
                subst ev3
                obtain ⟨j1, hj1⟩ : ∃ j1, wrap64 (j + 1) = j1 := ⟨_, rfl⟩
                have hj2 : j1 = j + 1 := by have := HN2.out; have := HL.out; rw [← hj1]; unfold wrap64; omega
                have hjw1 : IntKind.i64.wrap (j + 1) = j1 := (i64_w _).trans hj1
                have hpd := fun (W : World) (hW : PRow W N0 (.slice (some ⟨r, 0, none⟩) l2.length c0) l2) => placeDelete_ok N0 r c0 l2 n1 W hW (by have := HN2.out; have := HL.out; omega) (by have := HN2.out; omega)
                rw [show ((n1 : Nat) : Int) = j by have := HN2.out; omega, ← hj2, ← ev1] at hpd
                have HPD := Aside0.mk hpd
                have HAD := Aside0.mk ev1
                have HJ2 := Aside0.mk hj2
                clear hE hlk hpd hj1 hj2 hrb hrl hrh ev1
                go_wp2_with fail
                have hpr : PRow wr N0 (.slice (some ⟨r, 0, none⟩) l2.length c0) l2 := HAD.out ▸ HV2.out.prow
                refine (HPD.out _ HV2.out.prow).mono ?_
                rintro e w3 ⟨rfl, hp3, hb3, hk3⟩
                have hgr : g ≠ r := by
                  rintro rfl
                  exact Kd.N_ne hpr HV2.out.blk (by decide) rfl
                have hG3 := (hk3.2 g HV2.out.lt hgr).trans HV2.out.blk
                have hlen : (l2.eraseIdx n1).length = l2.length - 1 := List.length_eraseIdx_of_lt (by have := HN2.out; omega)
                obtain ⟨V1, hV1⟩ : ∃ V1, V1 = Value.slice (some ad) (l2.length - 1) c0 := ⟨_, rfl⟩
                rw [← hV1] at hp3
                have HV4 := Aside0.mk (VW.set0 hG3 HV2.out.ge hp3)
                have HS4 := Aside0.mk ((HS2.out.chg (hpr.chg1 hk3)).chg (Chg.setCell (p := ⟨g, 0, none⟩) hG3 (by decide) V1))
                have HB4 := Aside0.mk (show Below N0 w (w3.setCell ⟨g, 0, none⟩ V1) ∧ w1.heap.size ≤ (w3.setCell ⟨g, 0, none⟩ V1).heap.size from ⟨(HB2.out.1.trans hb3).setCell (p := ⟨g, 0, none⟩) HV2.out.ge V1, Nat.le_trans HB2.out.2 (by rw [World.size_setCell]; exact hb3.size)⟩)
                have HK4 := Aside0.mk ((HK2.out.then_ hk3 (fun k hk => .inl (.inr (by rw [hk, HAD.out]; rfl)))).setCell (p := ⟨g, 0, none⟩) (.inl (.inl rfl)) V1)
                rw [hV1] at HV4 HS4 HB4 HK4
                have hc3 := (blk_cell hG3 0).trans (show _ = some (Value.slice (some ad) l2.length c0) from rfl)
                have hf3 := blk_frozen hG3 0
                have HLE := Aside0.mk hlen
                clear hp3 hb3 hk3 hgr hG3 hlen hV1 hpr
                obtain ⟨Ao, co, rfl, _, _⟩ := HS4.out.told.slice
                have hw1 : w1.heap.size ≤ w3.heap.size := by have := HB4.out.2; rw [World.size_setCell] at this; exact this
                have HSZ := Aside0.mk hw1
                have HOL := Aside0.mk (show out.length + n1 ≤ 1000000 by have := HN2.out; have := HL.out; omega)
                clear hw1
                go_wp2_with (first | ((with_reducible refine gate_builtin (b := .append) (xs := #[.tmp 80, .tmp 84]) rfl ?_); (try (refine gate_guard (by rfl) ?_; dsimp only)); at_builtin; refine TN_append k65 (by decide) (w0 := (w3.setCell ⟨g, 0, none⟩ (.slice (some ad) (l2.length - 1) c0))) (N0 := w1.heap.size) rfl (.tmp 80) (.tmp 84) 36 (.agg #[.int .i64 0, .int .i64 0, .slice none 0 0]) 40 rfl Tryd.underlying36 (by kernel_rfl) rfl (by decide) (by omega) (.slice Ao out.length co) out (⟨1, j1, []⟩ : Tl) [.int .i64 1, .int .i64 j1, .slice none 0 0] rfl ?aX FK9_told0 HS4.out.told (Below.refl _ _) ?aS ?aL ?_; (case aX => exact sl_set w3 _ _); (case aS => (rw [World.size_setCell]; exact HSZ.out)); (case aL => have := HOL.out; omega); intro v30 w5 ho hb hg hat; have HR5 := Aside0.mk ho; have HB5 := Aside0.mk hb; have HG5 := Aside0.mk hg; clear ho hb hg hat))
                have HV6 := Aside0.mk (HV4.out.grownT HS4.out.told HG5.out)
                have HS6 := Aside0.mk (HS4.out.grown HG5.out HR5.out)
                have HK6 := Aside0.mk (Kept.of_grown HG5.out HK4.out (fun k hk => .inr (told_base HS4.out.told k hk)))
                have HB6 := Aside0.mk (show Below N0 w w5 ∧ w1.heap.size ≤ w5.heap.size from ⟨HB4.out.1.trans (HB5.out.mono (by have := HV.out.lt; have := HV.out.ge; have := HB1.out.size; omega)), Nat.le_trans HB4.out.2 HB5.out.size⟩)
                go_roundg k2
                case measure => omega
                case rel =>
                  rw [← HLE.out] at HV6
                  exact ⟨n1, wrap64 (j - 1), l2.eraseIdx n1, out ++ [⟨1, j1, []⟩], rfl, ⟨by have := HN2.out; have := HL.out; have := HLE.out; rw [List.length_append, List.length_singleton]; unfold wrap64; omega⟩, ⟨by rw [if_neg (by decide), HJ2.out]; exact HE3.out⟩, HV6, HS6, HB6, HK6⟩
      case rest =>
        obtain ⟨l2, out, HE2, HLL, HV2, HS2, HB2, HK2⟩ := hcut
        clear HVR HKR HMF HFM HA HT HBR
        have HCH := Aside0.mk (show Kept w wc S from Kept.then_ (Kept.of_below HB1.out _) HK2.out (fun k hk => .inl (HSS.out k hk)))
        have HFN := Aside0.mk (Kd.F_kept HN.out HK2.out (fun k hk hs => by
          by_cases hlt : k < w.heap.size
          · exact hk.elim (fun hp => HP.out k hp hlt hs) (fun h => by omega)
          · rcases hs with rfl | hs
            · exact hlt HV.out.lt
            · exact hlt (Kd.N_lt HV.out.row k hs)))
        have hg := (viewGrow_ok FL kf N0 g _ l2 top (fun k => P k ∨ w.heap.size ≤ k) A2 c2 ls wc HV2.out HFN.out (fun k hk _ hs => by
          replace hs := VS_len (m := l.length) hs
          by_cases hlt : k < w.heap.size
          · exact hk.elim (fun hp => HP.out k hp hlt hs) (fun h => by omega)
          · rcases hs with rfl | hs
            · exact hlt HV.out.lt
            · exact hlt (Kd.N_lt HV.out.row k hs)) (fun i hi => HK.out _ (risL_mem ms 0 (by rw [← HLS.out]; exact rd_mem ls i hi))) (by have := HL.out; have := HLL.out; have := risL_len ms 0; rw [← HLS.out] at this; omega))
        obtain ⟨l3, hl3⟩ : ∃ l3, l3 = (growL FL ls l2 top).1 := ⟨_, rfl⟩
        obtain ⟨top3, ht3⟩ : ∃ top3, top3 = (growL FL ls l2 top).2 := ⟨_, rfl⟩
        rw [← hl3, ← ht3] at hg
        obtain ⟨gb, hgb⟩ : ∃ gb, decide (l2.length < l3.length) = gb := ⟨_, rfl⟩
        rw [hgb] at hg
        have HGB := Aside0.mk hgb
        have HG := Aside0.mk hg
        have HL3 := Aside0.mk hl3
        have HT3 := Aside0.mk ht3
        clear hg hl3 ht3 hgb
        go_wp2_with fail
        refine HG.out.mono ?_
        rintro e w3 ⟨v3, rfl, hv3, hb3, hk3, ho3⟩
        have HV3 := Aside0.mk hv3
        have HOW := Aside0.mk (show ∀ k, v3.ownBlock = some k → S k ∨ w.heap.size ≤ k from fun k hk => by
          rcases ho3 with e | ⟨b, e, hle⟩
          · exact .inl (HSS.out k (.inr (by rw [← hk, e]; exact own_len _ _ _ _)))
          · rw [e] at hk; injection hk with hk; subst hk; exact .inr (Nat.le_trans HB1.out.size (Nat.le_trans HB2.out.2 hle)))
        clear ho3
        have HC3 := Aside0.mk (HCH.out.then_ hk3 (fun k hk => .inl (HSS.out k (VS_len hk))))
        have HS3 := Aside0.mk (HS2.out.chg (HV2.out.chg hk3))
        have HB3' := Aside0.mk (show Below N0 w w3 ∧ w1.heap.size ≤ w3.heap.size from ⟨HB2.out.1.trans hb3, Nat.le_trans HB2.out.2 hb3.size⟩)
        have HLN := Aside0.mk (show l3.length ≤ 2000000 ∧ out.length ≤ 1000000 by
          have h1 := HL.out; have h2 := HLL.out; have h3 := risL_len ms 0; have h4 := growL_len FL ls l2 top
          rw [← HLS.out] at h3; rw [← HL3.out] at h4; omega)
        clear hv3 hb3 hk3 HG HFN HCH
        obtain ⟨A3, c3, rfl, _, _⟩ := HV3.out.slice
        have hc3 := HV3.out.cell0
        go_upto_if 88 with fail
        go_cut [12, 88] from 89 to 98 (fun v12 _ w4 => Aside0 (VW N0 w4 g (.slice A3 l3.length c3) l3 top3) ∧ Aside0 (SX FL w4 w1.heap.size v12 (if l2.length < l3.length then out ++ [⟨2, (l3.length : Int), []⟩] else out) mf mt pf ls w1.heap.size) ∧ Aside0 (Below N0 w w4 ∧ w1.heap.size ≤ w4.heap.size) ∧ Aside0 (Kept w w4 S))
        case first =>
          cases gb with
          | true =>
            have HGR := Aside0.mk (of_decide_eq_true HGB.out)
            obtain ⟨Ao, co, rfl, _, _⟩ := HS3.out.told.slice
            go_wp2_with (first | ((with_reducible refine gate_builtin (b := .append) (xs := #[.tmp 89, .tmp 97]) rfl ?_); (try (refine gate_guard (by rfl) ?_; dsimp only)); at_builtin; refine TN_append k65 (by decide) (w0 := w3) (N0 := w1.heap.size) rfl (.tmp 89) (.tmp 97) 36 (.agg #[.int .i64 0, .int .i64 0, .slice none 0 0]) 40 rfl Tryd.underlying36 (by kernel_rfl) rfl (by decide) (by omega) (.slice Ao out.length co) out (⟨2, (l3.length : Int), []⟩ : Tl) [.int .i64 2, .int .i64 (l3.length : Int), .slice none 0 0] rfl ?aX FK9_told0 HS3.out.told (Below.refl _ _) ?aS ?aL ?_; (case aX => exact rfl); (case aS => exact HB3'.out.2); (case aL => have := HLN.out; omega); intro v30 w5 ho hb hg hat; have HR5 := Aside0.mk ho; have HB5 := Aside0.mk hb; have HG5 := Aside0.mk hg; clear ho hb hg hat))
            go_meet
            case rel => exact ⟨⟨HV3.out.grownT HS3.out.told HG5.out⟩, ⟨by rw [if_pos HGR.out]; exact HS3.out.grown HG5.out HR5.out⟩, ⟨HB3'.out.1.trans (HB5.out.mono (by have := HV.out.lt; have := HV.out.ge; have := HB1.out.size; omega)), Nat.le_trans HB3'.out.2 HB5.out.size⟩, ⟨Kept.of_grown HG5.out HC3.out (fun k hk => .inr (Nat.le_trans HB1.out.size (told_base HS3.out.told k hk)))⟩⟩
          | false =>
            have HGR := Aside0.mk (of_decide_eq_false HGB.out)
            go_wp2_with fail
            go_meet
            case rel => exact ⟨HV3, ⟨by rw [if_neg HGR.out]; exact HS3.out⟩, HB3', HC3⟩
        case rest =>
          obtain ⟨HV4, HS4, HB4, HC4⟩ := hcut
          obtain ⟨out3, ho3⟩ : ∃ o, o = (if l2.length < l3.length then out ++ [(⟨2, (l3.length : Int), []⟩ : Tl)] else out) := ⟨_, rfl⟩
          rw [← ho3] at HS4
          have HSY := Aside0.mk (show syncL FL q (risL ms 0) l top = (((flgL FL ls l3.length 0 l3 out3).1, top3), (flgL FL ls l3.length 0 l3 out3).2) by
            unfold syncL
            rw [← HLS.out, ← HE2.out]
            dsimp only
            rw [← HL3.out, ← HT3.out, ← ho3])
          have HLN3 := Aside0.mk (show l3.length ≤ 2000000 ∧ out3.length ≤ 1000001 by
            have := HLN.out
            rw [ho3]
            split
            · simp; omega
            · omega)
          have hc4 := HV4.out.cell0
          clear hc3 ho3 HC3 HV3 HS3 HB3' HV2 HS2 HB2 HK2
          go_wp2_with fail
          clear hc4
          go_loopg [105, 12] l3.length (fun kq v105 v12 w4 => ∃ (x : Int) (i : Nat) (l4 : List Pl) (out4 : List Tl), v105 = .int .i64 x ∧ Aside0 (x = i ∧ i + kq = l3.length ∧ l4.length = l3.length ∧ out4.length ≤ out3.length + i) ∧ Aside0 (flgL FL ls kq i l4 out4 = flgL FL ls l3.length 0 l3 out3) ∧ Aside0 (VW N0 w4 g (.slice A3 l3.length c3) l4 top3) ∧ Aside0 (SX FL w4 w1.heap.size v12 out4 mf mt pf ls w1.heap.size) ∧ Aside0 (Below N0 w w4 ∧ w1.heap.size ≤ w4.heap.size) ∧ Aside0 (Kept w w4 S))
          case atStart => exact ⟨0, 0, l3, out3, rfl, ⟨rfl, by omega, rfl, by omega⟩, ⟨rfl⟩, HV4, HS4, HB4, HC4⟩
          case round =>
            obtain ⟨x, i, l4, out4, rfl, HX, HE4, HV5, HS5, HB5, HC5⟩ := hrel
            clear HV4 HS4 HB4 HC4
            cases gk with
            | zero =>
              have c3b : decide (x < (l3.length : Int)) = false := decide_eq_false (by have := HX.out; omega)
              go_wp2_with fail
              go_ret
              refine ⟨.slice A3 l3.length c3, u12, rfl, ?_, ?_, HB5.out.1, HC5.out⟩
              · rw [HSY.out, ← HE4.out]; exact HS5.out.told.lower HB1.out.size
              · rw [HSY.out, ← HE4.out]; exact HV5.out
            | succ k3 =>
              have q1 : x < (l4.length : Int) := by have := HX.out; omega
              have q0 : 0 ≤ x := by have := HX.out; omega
              have q2 : x < (l3.length : Int) := by have := HX.out; omega
              have c3b : decide (x < (l3.length : Int)) = true := decide_eq_true q2
              obtain ⟨ad, A5, c5, e5, hx0, hx1, hl5, hi5⟩ := at_T74 (Kd.N_reads' HV5.out.row).2.2 x q0 q1
              subst e5
              have hE := HE4.out
              rw [flgL, show ((i : Nat) : Int) = x by have := HX.out; omega] at hE
              obtain ⟨p, hp⟩ : ∃ p, rd_T74 l4 x = p := ⟨_, rfl⟩
              rw [hp] at hE hx0 hx1 hl5 hi5
              have HPP := Aside0.mk (show rd_T74 l4 (i : Nat) = p by rw [show ((i : Nat) : Int) = x by have := HX.out; omega]; exact hp)
              have HE := Aside0.mk hE
              have HLE5 := Aside0.mk hl5
              have HI5 := Aside0.mk hi5
              replace q0 := eq_true q0
              replace q2 := eq_true q2
              obtain ⟨x1, hxx1⟩ : ∃ x1, wrap64 (x + 1) = x1 := ⟨_, rfl⟩
              have HX1 := Aside0.mk (show x1 = x + 1 by have := HX.out; have := HLN3.out; rw [← hxx1]; unfold wrap64; omega)
              have hxw : IntKind.i64.wrap (x + 1) = x1 := (i64_w _).trans hxx1
              clear q1 hE hp hl5 hi5 HE4
              go_upto_region 23 with fail
              obtain ⟨W5, hW5⟩ : ∃ W5, W5 = wr.alloc (.cells #[.int .i64 p.f0, .slice A5 p.f1.length c5] 74) := ⟨_, rfl⟩
              rw [← hW5]
              have hb5 : Below wr.heap.size wr W5 := by rw [hW5]; exact below_alloc (Below.refl _ _) _
              have hblk : W5.heap[wr.heap.size]? = some (.cells #[.int .i64 p.f0, .slice A5 p.f1.length c5] 74 (0, 0)) := by rw [hW5]; exact blk_new _ _
              have HV6 := Aside0.mk (HV5.out.below hb5)
              have HS6 := Aside0.mk (HS5.out.below hb5)
              have HB6 := Aside0.mk (show Below N0 w W5 ∧ w1.heap.size ≤ W5.heap.size from ⟨HB5.out.1.trans (hb5.mono (by have := HV5.out.lt; have := HV5.out.ge; omega)), Nat.le_trans HB5.out.2 hb5.size⟩)
              have HC6 := Aside0.mk (HC5.out.below hb5)
              have HCF := Aside0.mk (Kd.C_below HI5.out hb5)
              have HNP := Aside0.mk (show wr.heap.size ≠ g ∧ (∀ k, (Value.slice (some ad) l3.length c3).ownBlock = some k → wr.heap.size ≠ k) from ⟨by have := HV5.out.lt; omega, fun k hk => by have := Kd.N_lt HV5.out.row k hk; omega⟩)
              have hm0 := (blk_cell hblk 0).trans (show _ = some (Value.int .i64 p.f0) from rfl)
              have hm1 := (blk_cell hblk 1).trans (show _ = some (Value.slice A5 p.f1.length c5) from rfl)
              clear hx0 hx1 hb5 hW5 HV5 HS5 HB5 HC5
              generalize wr.heap.size = pB at hblk hm0 hm1 HNP ⊢
              have HBK := Aside0.mk hblk
              have hlk := (HS6.out.there.lookup Tryd.underlying29 Tryd.underlying3 (z := .bool false) (by rfl) p.f0).trans (by rw [getI_thereU p.f0 ls])
              clear hblk
              cases hu : inU ls p.f0 with
              | false =>
                have hlk1 := hlk.trans (by rw [hu])
                have hE := HE.out
                rw [hu, if_neg (fun h => by cases h.1)] at hE
                have HE5 := Aside0.mk hE
                clear hlk hE
                go_wp2_with fail
                go_roundg k3
                case measure => omega
                case rel => exact ⟨x1, i + 1, l4, out4, rfl, ⟨by have := HX.out; have := HX1.out; omega⟩, HE5, HV6, HS6, HB6, HC6⟩
              | true =>
                have hlk1 := hlk.trans (by rw [hu])
                obtain ⟨vf, hvf, _, hRf⟩ := (HS6.out.each.get p.f0 pf ls).resolve_left (fun h => by rw [hu] at h; cases h.2.1)
                obtain ⟨fu, hfu⟩ : ∃ fu, fu = flagsU FL ls p.f0 := ⟨_, rfl⟩
                rw [← hfu] at hRf
                have HFU := Aside0.mk (show fu.length ≤ 1000 by rw [hfu]; exact flagsU_len FL kf p.f0 ls (fun m hm => HK.out m (risL_mem ms 0 (by rw [← HLS.out]; exact hm))))
                obtain ⟨Af, cf, rfl⟩ := Kd.R_slice hRf
                have hlk2 := (HS6.out.flags.lookup Tryd.underlying71 Tryd.underlying3 (zero_texts W5) p.f0).trans (by rw [hvf]; rfl : _ = Result.ok (Value.slice Af fu.length cf) W5)
                obtain ⟨ke, hke⟩ := Equal_tells p.f1 fu (HCF.out.2.1)
                have HKE := Aside0.mk hke
                have HRF := Aside0.mk hRf
                have HVF := Aside0.mk hvf
                have hE := HE.out
                rw [hu, ← hfu] at hE
                have HE6 := Aside0.mk hE
                clear hlk hE hke hRf hvf HE hfu
                go_wp2_with fail
                refine (slices_Equal_string_string.calls ke A5 c5 p.f1 Af cf fu _ _ HCF.out HLE5.out (Kd.R_reads' HRF.out).2.2 (Kd.R_reads' HRF.out).2.1 HKE.out).mono ?_
                rintro e w6 ⟨rfl, n6, rfl⟩
                cases hd : decide (p.f1 = fu) with
                | true =>
                  have hE := HE6.out
                  rw [if_neg (fun h => h.2 (of_decide_eq_true hd))] at hE
                  have HE7 := Aside0.mk hE
                  clear hE hd
                  go_wp2_with fail
                  go_roundg k3
                  case measure => omega
                  case rel => exact ⟨x1, i + 1, l4, out4, rfl, ⟨by have := HX.out; have := HX1.out; omega⟩, HE7, ⟨HV6.out.drewN n6⟩, ⟨HS6.out.below (pw_below_drewN (Below.refl _ _) n6)⟩, ⟨pw_below_drewN HB6.out.1 n6, HB6.out.2⟩, ⟨HC6.out.drewN n6⟩⟩
                | false =>
                  have hE := HE6.out
                  rw [if_pos ⟨trivial, of_decide_eq_false hd⟩] at hE
                  have HE7 := Aside0.mk hE
                  clear hE hd HE6
                  go_wp2_with fail
                  obtain ⟨W6, hW6⟩ : ∃ W6, W6 = W5.drewN n6 := ⟨_, rfl⟩
                  rw [← hW6]
                  have hb6 : Below W5.heap.size W5 W6 := by rw [hW6]; exact pw_below_drewN (Below.refl _ _) n6
                  have HV7 := Aside0.mk (HV6.out.below hb6)
                  have HS7 := Aside0.mk (HS6.out.below hb6)
                  have HB7 := Aside0.mk (show Below N0 w W6 ∧ w1.heap.size ≤ W6.heap.size from ⟨HB6.out.1.trans (hb6.mono (by have := HV6.out.lt; have := HV6.out.ge; omega)), Nat.le_trans HB6.out.2 hb6.size⟩)
                  have HC7 := Aside0.mk (HC6.out.below hb6)
                  have HBK7 := Aside0.mk ((hb6.block pB (blk_lt HBK.out)).trans HBK.out)
                  have HRF7 := Aside0.mk (Kd.R_below HRF.out hb6)
                  obtain ⟨r, cap, ev, hrb, hrl, cells, hrh⟩ := Kd.N_form HV7.out.row (by have := HX.out; omega)
                  injection ev with ev1 ev2 ev3
                  clear ev2
                  injection ev1 with ev1
                  subst ev3
                  obtain ⟨ad', A6, c6, e6, hx0, hx1, _, _⟩ := at_T74 (Kd.N_reads' HV7.out.row).2.2 x (by have := HX.out; omega) (by have := HX.out; omega)
                  injection e6 with e6
                  subst e6
                  have hfz : W6.frozen? ⟨(ad.add (x.toNat * 2)).block, (ad.add (x.toNat * 2)).off + 1, none⟩ = false := by rw [ev1, addr0]; exact blk_frozen hrh _
                  have hrg : g ≠ r := by
                    rintro rfl
                    exact Kd.N_ne HV7.out.row HV7.out.blk (by decide) (by rw [ev1]; rfl)
                  have hrp : pB ≠ r := fun e => HNP.out.2 r (by rw [ev1]; rfl) e
                  have HAD := Aside0.mk (show (⟨(ad.add (x.toNat * 2)).block, (ad.add (x.toNat * 2)).off + 1, none⟩ : Addr) = ⟨r, i * 2 + 1, none⟩ by rw [ev1, addr0, show x.toNat = i by have := HX.out; omega])
                  have hc7 := HV7.out.cell0
                  have hm7 := (blk_cell HBK7.out 0).trans (show _ = some (Value.int .i64 p.f0) from rfl)
                  have hz9 := fun (W : World) (hM : MI W mf pf) => (hM.lookup Tryd.underlying71 Tryd.underlying3 (zero_texts W) p.f0).trans (by rw [HVF.out]; rfl : _ = Result.ok (Value.slice Af fu.length cf) W)
                  have hlk7 := hz9 W6 HS7.out.flags
                  have HS8 := Aside0.mk (fun (u : Value) => HS7.out.chg (Chg.setCell (p := ⟨r, i * 2 + 1, none⟩) hrh (by decide) u))
                  have hst : ∀ u, (W6.setCell ⟨(ad.add (x.toNat * 2)).block, (ad.add (x.toNat * 2)).off + 1, none⟩ u).cell? ⟨g, 0, none⟩ = some (.slice (some ad) l3.length c3) ∧ (W6.setCell ⟨(ad.add (x.toNat * 2)).block, (ad.add (x.toNat * 2)).off + 1, none⟩ u).cell? ⟨pB, 0, none⟩ = some (.int .i64 p.f0) ∧ (Instr.lookup 71 (.map (some mf)) (.int .i64 p.f0) false).run Tryd.prog (W6.setCell ⟨(ad.add (x.toNat * 2)).block, (ad.add (x.toNat * 2)).off + 1, none⟩ u) = .ok (.slice Af fu.length cf) (W6.setCell ⟨(ad.add (x.toNat * 2)).block, (ad.add (x.toNat * 2)).off + 1, none⟩ u) := fun u => by
                    rw [HAD.out]
                    exact ⟨(blk_cell ((Below.heap_setCell W6 ⟨r, i * 2 + 1, none⟩ u g hrg).trans HV7.out.blk) 0).trans rfl, (blk_cell ((Below.heap_setCell W6 ⟨r, i * 2 + 1, none⟩ u pB hrp).trans HBK7.out) 0).trans rfl, hz9 _ (HS8.out u).flags⟩
                  have hmi : ∀ u, MI (W6.setCell ⟨(ad.add (x.toNat * 2)).block, (ad.add (x.toNat * 2)).off + 1, none⟩ u) mf pf := fun u => by rw [HAD.out]; exact (HS8.out u).flags
                  obtain ⟨hp1, _⟩ := PRow.setFlags (W := W6) (N0 := N0) (r := r) (n := l3.length) (cap := c3) (ev1 ▸ HV7.out.prow) i (by have := HX.out; omega) HRF7.out
                  rw [HPP.out] at hp1
                  have HV8 := Aside0.mk (show VW N0 (W6.setCell ⟨r, i * 2 + 1, none⟩ (.slice Af fu.length cf)) g (.slice (some ad) l3.length c3) (l4.set i ⟨p.f0, fu⟩) top3 from ⟨(Below.heap_setCell W6 ⟨r, i * 2 + 1, none⟩ _ g hrg).trans HV7.out.blk, HV7.out.ge, by rw [ev1]; exact hp1⟩)
                  have HB8 := Aside0.mk (show Below N0 w (W6.setCell ⟨r, i * 2 + 1, none⟩ (.slice Af fu.length cf)) ∧ w1.heap.size ≤ (W6.setCell ⟨r, i * 2 + 1, none⟩ (.slice Af fu.length cf)).heap.size from ⟨HB7.out.1.setCell (p := ⟨r, i * 2 + 1, none⟩) hrb _, by rw [World.size_setCell]; exact HB7.out.2⟩)
                  have HC8 := Aside0.mk (HC7.out.setCell (p := ⟨r, i * 2 + 1, none⟩) (HOW.out r (by rw [ev1]; rfl)) (.slice Af fu.length cf))
                  have HBK8 := Aside0.mk ((Below.heap_setCell W6 ⟨r, i * 2 + 1, none⟩ (.slice Af fu.length cf) pB hrp).trans HBK7.out)
                  have HRF8 := Aside0.mk (R9.chg HRF7.out (Chg.setCell (p := ⟨r, i * 2 + 1, none⟩) hrh (show _ ∈ TV by decide) (.slice Af fu.length cf)) (by decide))
                  clear hlk1 hlk2 hm0 hm1 hb6 hW6 hp1 hrg hrp ev1 hrb hrl hrh hx0 HV6 HS6 HB6 HC6 HBK HRF HCF
                  go_region_held3 (fun W => W.cell? ⟨g, 0, none⟩ = some (.slice (some ad) l3.length c3) ∧ W.cell? ⟨pB, 0, none⟩ = some (.int .i64 p.f0) ∧ (Instr.lookup 71 (.map (some mf)) (.int .i64 p.f0) false).run Tryd.prog W = .ok (.slice Af fu.length cf) W) (first | exact hHeld | exact ⟨hc7, hm7, hz9 _ HS7.out.flags⟩ | exact ⟨(hst _).1, (hst _).2.1, hz9 _ (hmi _)⟩) (fail)
                  rw [HAD.out]
                  obtain ⟨Wz, hWz⟩ : ∃ Wz, Wz = W6.setCell ⟨r, i * 2 + 1, none⟩ (.slice Af fu.length cf) := ⟨_, rfl⟩
                  rw [← hWz] at HV8 HB8 HC8 HBK8 HRF8 ⊢
                  have HS8 := Aside0.mk (hWz ▸ HS8.out (.slice Af fu.length cf) : SX FL Wz w1.heap.size u12 out4 mf mt pf ls w1.heap.size)
                  obtain ⟨W8, hW8⟩ : ∃ W8, W8 = Wz.drew := ⟨_, rfl⟩
                  rw [← hW8]
                  have hb8 : Below Wz.heap.size Wz W8 := by rw [hW8]; exact below_drew (Below.refl _ _)
                  have HV9 := Aside0.mk (HV8.out.below hb8)
                  have HS9 := Aside0.mk (HS8.out.below hb8)
                  have hN0 : N0 ≤ Wz.heap.size := by have := HV8.out.lt; have := HV8.out.ge; omega
                  have HB9 := Aside0.mk (show Below N0 w W8 ∧ w1.heap.size ≤ W8.heap.size from ⟨HB8.out.1.trans (hb8.mono hN0), Nat.le_trans HB8.out.2 hb8.size⟩)
                  have HC9 := Aside0.mk (HC8.out.below hb8)
                  have hm9 := (blk_cell ((hb8.block pB (blk_lt HBK8.out)).trans HBK8.out) 0).trans (show _ = some (Value.int .i64 p.f0) from rfl)
                  have hlk9 := hz9 W8 HS9.out.flags
                  have HRF9 := Aside0.mk (Kd.R_below HRF8.out hb8)
                  clear hst hmi hc7 hm7 hlk7 hfz hx1 hz9 hWz hW8 hb8 hN0 HV8 HS8 HB8 HC8 HBK8 HRF8 HV7 HS7 HB7 HC7 HBK7 HRF7
                  go_wp2_with fail
                  refine (textClone_ok Af cf fu _ (Kd.R_reads' HRF9.out).2.2 (by have := HFU.out; omega)).mono ?_
                  rintro e w9 ⟨v9, rfl, hr9, hb9⟩
                  have HV10 := Aside0.mk (HV9.out.below hb9)
                  have HS10 := Aside0.mk (HS9.out.below hb9)
                  have HB10 := Aside0.mk (show Below N0 w w9 ∧ w1.heap.size ≤ w9.heap.size from ⟨HB9.out.1.trans (hb9.mono (by have := HV9.out.lt; have := HV9.out.ge; omega)), Nat.le_trans HB9.out.2 hb9.size⟩)
                  have HC10 := Aside0.mk (HC9.out.below hb9)
                  obtain ⟨A9, c9, rfl⟩ := Kd.R_slice hr9
                  have HR9 := Aside0.mk hr9
                  have HOL := Aside0.mk (show out4.length ≤ 4000000 by have := HX.out; have := HLN3.out; omega)
                  clear hr9 hb9 hm9 hlk9
                  obtain ⟨Ao, co, rfl, _, _⟩ := HS10.out.told.slice
                  go_wp2_with (first | ((with_reducible refine gate_builtin (b := .append) (xs := #[.tmp 136, .tmp 145]) rfl ?_); (try (refine gate_guard (by rfl) ?_; dsimp only)); at_builtin; refine TN_append k65 (by decide) (w0 := w9) (N0 := w1.heap.size) rfl (.tmp 136) (.tmp 145) 36 (.agg #[.int .i64 0, .int .i64 0, .slice none 0 0]) 40 rfl Tryd.underlying36 (by kernel_rfl) rfl (by decide) (by omega) (.slice Ao out4.length co) out4 (⟨3, x1, fu⟩ : Tl) [.int .i64 3, .int .i64 x1, .slice A9 fu.length c9] rfl ?aX (FK9_told HR9.out) HS10.out.told (Below.refl _ _) ?aS ?aL ?_; (case aX => exact rfl); (case aS => exact HB10.out.2); (case aL => have := HOL.out; omega); intro v30 w10 ho hb hg hat; have HR11 := Aside0.mk ho; have HB11 := Aside0.mk hb; have HG11 := Aside0.mk hg; clear ho hb hg hat))
                  go_roundg k3
                  case measure => omega
                  case rel =>
                    refine ⟨x1, i + 1, l4.set i ⟨p.f0, fu⟩, out4 ++ [⟨3, x1, fu⟩], rfl, ⟨by have := HX.out; have := HX1.out; rw [List.length_append, List.length_set, List.length_singleton]; omega⟩, ⟨?_⟩, ⟨HV10.out.grownT HS10.out.told HG11.out⟩, ⟨HS10.out.grown HG11.out HR11.out⟩, ⟨HB10.out.1.trans (HB11.out.mono (by have := HV.out.lt; have := HV.out.ge; have := HB1.out.size; omega)), Nat.le_trans HB10.out.2 HB11.out.size⟩, ⟨Kept.of_grown HG11.out HC10.out (fun k hk => .inr (Nat.le_trans HB1.out.size (told_base HS10.out.told k hk)))⟩⟩
                    rw [HX1.out]
                    exact HE7.out
    | succ k1 =>
      have q1 : x < (ls.length : Int) := by have := HX.out; omega
      have q0 : 0 ≤ x := by have := HX.out; omega
      have c1b : decide (x < (ls.length : Int)) = true := decide_eq_true q1
      have HF1 := Aside0.mk (Kd.F_below (Kd.F_step HN.out (fun _ _ _ => rfl)) HB.out.1)
      obtain ⟨ad, cs, rfl, hcl, hK, hcc, _⟩ := Kd.F_get HF1.out z43 x q0 q1
      obtain ⟨A1, c1, rfl, hl1, hf1⟩ := k43_openF hK
      obtain ⟨ad', A1', c1', e', hx0, hx1, hx2, hx3, hx4, hx5, hx6, hx7, hx8, hx9, hx10, hx11, hla, hia⟩ := at_T43 (Kd.F_now HF1.out) x q0 q1
      cases e'
      have hv := hcc 1 _ rfl
      rw [add_field _ _ 1 (by omega)] at hv
      replace hv := Option.some.inj (hv.symm.trans hx1)
      rw [← hv] at hx1
      clear hv hcc hcl hla hia A1' c1'
      have HFS := Aside0.mk (show Kd.F Kd.string wr _ A1 (rd_T43 ls x).f1.length (rd_T43 ls x).f1 from hf1)
      have HLE := Aside0.mk (show (rd_T43 ls x).f1.length ≤ c1 from hl1)
      replace hx1 : wr.cell? ⟨(ad.add (x.toNat * 12)).block, (ad.add (x.toNat * 12)).off + 1, none⟩ = some (.slice A1 (rd_T43 ls x).f1.length c1) := hx1
      clear hK hl1 hf1
      have hmem : rd_T43 ls x ∈ ls := by
        have := rd_mem ls i (by have := HX.out; omega)
        rwa [show (i : Int) = x by have := HX.out; omega] at this
      have HFL := Aside0.mk (HK.out (rd_T43 ls x) (risL_mem ms 0 (by rw [← HLS.out]; exact hmem)))
      have HTK := Aside0.mk (show ls.take (i + 1) = ls.take i ++ [rd_T43 ls x] by
        rw [take_snoc ls i z43 (by have := HX.out; omega)]
        unfold rd_T43
        rw [show x.toNat = i by have := HX.out; omega])
      have HNE := Aside0.mk (show ∀ m ∈ ls.take i, m.f0 ≠ (rd_T43 ls x).f0 by
        intro m hm
        have hp := risL_pair ms 0
        rw [← HLS.out, ← List.take_append_drop (i + 1) ls, HTK.out, List.pairwise_append, List.pairwise_append] at hp
        have := hp.1.2.2 m hm _ (List.mem_singleton.2 rfl)
        omega)
      have q0b := eq_true q0
      have q1b := eq_true q1
      clear q0 q1 hmem
      generalize rd_T43 ls x = m at hx0 hx1 hx2 hx3 hx4 hx5 hx6 hx7 hx8 hx9 hx10 hx11 HFS HLE HFL HTK HNE
      go_wp2_with fail
      obtain ⟨W5, hW5⟩ : ∃ W5, W5 = wr.alloc (.cells (mcs m A1 c1).toArray 43) := ⟨_, rfl⟩
      rw [← hW5]
      have hblk : W5.heap[wr.heap.size]? = some (.cells (mcs m A1 c1).toArray 43 (0, 0)) := by rw [hW5]; exact blk_new _ _
      have hb5 : Below wr.heap.size wr W5 := by rw [hW5]; exact below_alloc (Below.refl _ _) _
      have HM5 := Aside0.mk (show wr.heap.size ≠ mf ∧ wr.heap.size ≠ mt by have := HB.out.2; have := HM.out; omega)
      have hlt5 : mf < wr.heap.size ∧ mt < wr.heap.size := by have := HB.out.2; have := HM.out; omega
      have HFS5 := Aside0.mk (Kd.F_below HFS.out hb5)
      have HA5 := Aside0.mk (HA.out.keep (hb5.block _ hlt5.1))
      have HT5 := Aside0.mk (HT.out.keep (hb5.block _ hlt5.2))
      have HFM5 := Aside0.mk (FM.step (fun k hk => hb5.block k hk.lt) _ _ HFM.out)
      have HB5 := Aside0.mk (show Below w1.heap.size w1 W5 ∧ mt < W5.heap.size from ⟨HB.out.1.trans (hb5.mono HB.out.1.size), Nat.lt_of_lt_of_le HB.out.2 hb5.size⟩)
      have HN1 := Aside0.mk (getI_new m.f0 pf (ls.take i) HFM.out HNE.out)
      have HN2 := Aside0.mk (show getI (thereM (ls.take i)) m.f0 = none by
        rw [getI_there, if_neg]
        rintro ⟨a, b, c⟩
        exact HNE.out a b c)
      clear hx0 hx1 hx2 hx3 hx4 hx5 hx6 hx7 hx8 hx9 hx10 hx11 hlt5 hb5 hW5 HF1 HFS HA HT HFM HB
      generalize wr.heap.size = mB at hblk HM5 ⊢
      have HBK := Aside0.mk hblk
      have hm0 := (smk hblk).2.1
      have hm1 := (smk hblk).2.2
      clear hblk
      go_region_held3 (fun W => W.heap[mB]? = some (.cells (mcs m A1 c1).toArray 43 (0, 0)) ∧ W.cell? ⟨mB, 0, none⟩ = some (.int .i64 m.f0) ∧ W.cell? ⟨mB, 1, none⟩ = some (.slice A1 m.f1.length c1)) (first | exact hHeld | exact smk HBK.out | exact smk HBK7.out | exact smk ((setB_ne _ _ HM5.out.1).trans HBK7.out) | exact smk ((setB_ne _ _ HM5.out.1).trans ((setB_ne _ _ HM5.out.1).trans HBK7.out)) | exact smk ((setB_ne _ _ HM5.out.2).trans ((setB_ne _ _ HM5.out.1).trans ((setB_ne _ _ HM5.out.1).trans HBK7.out)))) (first | (go_at_call 39; refine (search_Flags.calls kf A1 c1 m.f1 (FL m.f1) _ (Kd.F_now (by repeat (first | exact HFS5.out | apply Kd.F_drewN | apply Kd.F_drew))) HLE.out HFL.out).mono ?_; rintro e w7 ⟨vf, rfl, hr7, hb7⟩; have hb8 : Below W5.heap.size W5 w7 := (by first | exact hb7 | exact Below.trans (by repeat (first | exact Below.refl _ _ | apply pw_below_drewN | apply below_drew1)) hb7); have HRF := Aside0.mk (Kd.R_lower hr7 (show w1.heap.size ≤ _ from HB5.out.1.size)); have HBK7 := Aside0.mk ((hb8.block mB (blk_lt HBK.out)).trans HBK.out); have HB7 := Aside0.mk (show Below w1.heap.size w1 w7 ∧ mt < w7.heap.size from ⟨HB5.out.1.trans (hb8.mono HB5.out.1.size), Nat.lt_of_lt_of_le HB5.out.2 hb8.size⟩); have HFM7 := Aside0.mk (FM.step (fun k hk => hb8.block k hk.lt) _ _ HFM5.out); obtain ⟨o1, o2, o3, r1, r2, r3, m1, m2⟩ := mapStep w7 mf mt (by have := HM.out; omega) pf (thereM (ls.take i)) (HA5.out.keep (hb8.block _ (by have := HM.out; have := HB5.out.2; omega))) (HT5.out.keep (hb8.block _ HB5.out.2)) m.f0 HN1.out HN2.out vf; have HT9 := Aside0.mk (fun (k : Nat) (hk : T9 w7 k) => And.intro (T9_map hk (HA5.out.keep (hb8.block _ (by have := HM.out; have := HB5.out.2; omega)))) (T9_map hk (HT5.out.keep (hb8.block _ HB5.out.2)))); have M1 := Aside0.mk m1; have M2 := Aside0.mk m2; clear hr7 hb7 hb8 m1 m2))
      have HX9 := Aside0.mk (FM.step (w' := setB (setB (setB w7 mf o1) mf o2) mt o3) (fun k hk => ((setB_ne _ _ (HT9.out k hk).2).trans ((setB_ne _ _ (HT9.out k hk).1).trans (setB_ne _ _ (HT9.out k hk).1)))) _ _ (FM.snoc (p := (m.f0, vf)) rfl HRF.out _ _ HFM7.out))
      have HB9 := Aside0.mk (show Below w1.heap.size w1 (setB (setB (setB w7 mf o1) mf o2) mt o3) ∧ mt < (setB (setB (setB w7 mf o1) mf o2) mt o3).heap.size from ⟨setB_below (setB_below (setB_below HB7.out.1 (by have := HM.out; omega) _) (by have := HM.out; omega) _) (by have := HM.out; omega) _, by rw [setB_size, setB_size, setB_size]; exact HB7.out.2⟩)
      clear r1 r2 r3
      go_wp2_with fail
      go_roundg k1
      case measure => omega
      case rel =>
        refine ⟨wrap64 (x + 1), i + 1, pf ++ [(m.f0, vf)], rfl, ⟨by have := HX.out; have := HL.out; have := risL_len ms 0; rw [← HLS.out] at this; unfold wrap64; omega⟩, ?_, M1, ?_, HB9⟩
        · rw [HTK.out]; exact HX9
        · rw [HTK.out]
          have : thereM (ls.take i ++ [m]) = thereM (ls.take i) ++ [(m.f0, .bool true)] := by simp [thereM]
          rw [this]
          exact M2
end Go.Proofs.YtmpngedfnheilaaDoor.PP
