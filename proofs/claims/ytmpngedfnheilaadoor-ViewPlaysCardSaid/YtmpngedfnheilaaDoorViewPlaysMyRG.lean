/- YtmpngedfnheilaaDoorMyRG, as far as ViewPlays needs it (prune.py). -/
import Derived.Test.YtmpngedfnheilaaDoorViewPlaysMyViewZ
import Derived.Test.YtmpngedfnheilaaDoorViewPlaysMyRH
import Derived.Test.YtmpngedfnheilaaDoorViewPlaysPPx11
namespace Go.Proofs.YtmpngedfnheilaaDoor.PP
open Go.RowKit Go.Proofs.YtmpngedfnheilaaDoorW.PrintWords Go.Proofs.YtmpngedfnheilaaDoorW.PrintLast Go.Proofs.YtmpngedfnheilaaDoorW.PrintMore
open Go.Proofs.YtmpngedfnheilaaDoor.My
set_option linter.unusedVariables false
set_option linter.unusedSimpArgs false
set_option maxHeartbeats 8000000 in
set_option maxRecDepth 100000 in
theorem refSync_ok (FL : List ByteArray → List ByteArray) (kf N0 g : Nat) (v : Value) (l : List Rp) (top : Int) (q : Bool) (P : Nat → Prop) (A : Option Addr) (c : Nat) (ms : List Ml) (w : World) (h : RW N0 w g v l top) (hmc : ms.length ≤ c)
    (hF : Kd.F k43 w P A ms.length ms) (hP : ∀ k, P k → k < w.heap.size → ¬ VS g v k) (hK : ∀ m ∈ ms, haversackref16_Flags.f kf m.f1 = some (FL m.f1)) (hl : l.length + ms.length ≤ 1000000) :
    Calls Tryd.prog 22 #[.pointer (some ⟨g, 0, none⟩), .bool q, .slice A ms.length c] w fun e w' => ∃ (v' vo : Value), e = .returned vo ∧ TRow w' w.heap.size vo (syncR FL q (risL ms 0) l top).2 ∧ RW N0 w' g v' (syncR FL q (risL ms 0) l top).1.1 (syncR FL q (risL ms 0) l top).1.2 ∧ Below N0 w w' ∧ Chg TR w w' := by
  obtain ⟨kr, hkr⟩ := (Rising_ev ms (by omega)).at
  have HKR := Aside0.mk hkr
  have HV := Aside0.mk h
  have HF := Aside0.mk hF
  have HP := Aside0.mk hP
  have HK := Aside0.mk hK
  have HL := Aside0.mk hl
  have HMC := Aside0.mk hmc
  clear h hF hP hK hl hkr hmc
  go_enter Tryd.func22, Tryd.ntmps22
  go_wp2_with fail
  refine (haversackref18_Rising.calls kr P A c ms (risL ms 0) _ (Kd.V_mk HMC.out HF.out) HKR.out).mono ?_
  rintro e w1 ⟨v0, rfl, hn, hb1⟩
  obtain ⟨A2, c2, e2⟩ := Kd.N_slice hn
  subst e2
  have hv1 := HV.out.below hb1
  obtain ⟨ls, hls⟩ : ∃ ls, ls = risL ms 0 := ⟨_, rfl⟩
  rw [← hls] at hn ⊢
  have HLS := Aside0.mk hls
  have HLL := Aside0.mk (show ls.length ≤ ms.length by rw [hls]; exact risL_len ms 0)
  have HN := Aside0.mk (Kd.F_bound (Kd.N_F hn))
  have HLC := Aside0.mk (Kd.N_reads' hn).2.1
  have HB1 := Aside0.mk hb1
  have HPV := Aside0.mk (show ∀ k, ((P k ∨ w.heap.size ≤ k) ∧ k < w1.heap.size) → ¬ VS g v k from fun k hk hs => by
    have hlt : k < w.heap.size := by
      rcases hs with rfl | hs
      · exact HV.out.lt
      · exact Kd.N_lt HV.out.row k hs
    exact hk.1.elim (fun hp => HP.out k hp hlt hs) (fun h => by omega))
  have HNN := Aside0.mk (show N0 ≤ w1.heap.size by have := HV.out.lt; have := HV.out.ge; have := hb1.size; omega)
  have HS0 := Aside0.mk (show RS N0 w w1 w1 g v v l top (.slice none 0 0) [] from ⟨hv1, TN.nil _ _ _ _, hb1.mono (by have := HV.out.lt; have := HV.out.ge; omega), Nat.le_refl _, Kept.refl _ _, fun k hk => .inl hk⟩)
  have hc0 := hv1.cell0
  obtain ⟨A0, c0, e0, _, _⟩ := hv1.slice
  rw [e0] at hc0
  obtain ⟨j0, hj0⟩ : ∃ j0, wrap64 ((l.length : Int) - 1) = j0 := ⟨_, rfl⟩
  have HJ := Aside0.mk (show j0 = (l.length : Int) - 1 by rw [← hj0]; have := HL.out; unfold wrap64; omega)
  have hjw : IntKind.i64.wrap ((l.length : Int) - 1) = j0 := (i64_w _).trans hj0
  have HE0 := Aside0.mk e0
  clear hn hb1 hv1 hls e0 hj0
  go_wp2_with fail
  clear hc0 hjw
  go_loopg [8, 9] l.length (fun kq v8 v9 wr => ∃ (n : Nat) (j : Int) (v1 : Value) (l1 : List Rp) (out : List Tl), v9 = .int .i64 j ∧ Aside0 (j = (n : Int) - 1 ∧ n ≤ kq ∧ n ≤ l1.length ∧ l1.length ≤ l.length ∧ out.length + n ≤ l.length) ∧ Aside0 ((if q = true then (l1, out) else expR ls n l1 out) = (if q = true then (l, []) else expR ls l.length l [])) ∧ Aside0 (RS N0 w w1 wr g v v1 l1 top v8 out))
  case atStart => exact ⟨l.length, j0, v, l, [], rfl, ⟨HJ.out, Nat.le_refl _, Nat.le_refl _, Nat.le_refl _, by simp⟩, ⟨rfl⟩, HS0⟩
  case round =>
    obtain ⟨n, j, v1, l1, out, rfl, HX, HE, HS⟩ := hrel
    clear HS0 HE0
    obtain ⟨A1, c1, rfl, _, _⟩ := HS.out.vw.slice
    obtain ⟨Ao, co, rfl, _, _⟩ := HS.out.told.slice
    have hc1 := HS.out.vw.cell0
    cases n with
    | zero =>
      have HR := Aside0.mk (show (l1, out) = (if q = true then (l, []) else expR ls l.length l []) from by
        rw [← HE.out]
        split
        · rfl
        · rfl)
      have HX0 := Aside0.mk (show j = -1 ∧ l1.length ≤ l.length ∧ out.length ≤ l.length by have := HX.out; omega)
      have p0c : decide (0 ≤ j) = false := decide_eq_false (by have := HX.out; omega)
      have hg := refGrow_ok FL kf N0 g _ l1 top (fun k => (P k ∨ w.heap.size ≤ k) ∧ k < w1.heap.size) A2 c2 ls wr HS.out.vw (HS.out.mails HN.out HPV.out) (fun k hk _ hs => (HS.out.vs k hs).elim (HPV.out k hk) (fun h => absurd hk.2 (by omega))) (fun i hi => HK.out _ (risL_mem ms 0 (by rw [← HLS.out]; exact rd_mem ls i hi))) (by have := HL.out; have := HLL.out; have := HX0.out; omega)
      obtain ⟨l3, hl3⟩ : ∃ l3, l3 = (growR FL ls l1 top).1 := ⟨_, rfl⟩
      obtain ⟨top3, ht3⟩ : ∃ top3, top3 = (growR FL ls l1 top).2 := ⟨_, rfl⟩
      rw [← hl3, ← ht3] at hg
      have HG := Aside0.mk hg
      have HL3 := Aside0.mk hl3
      have HT3 := Aside0.mk ht3
      obtain ⟨gn, hgn⟩ : ∃ gn, gn = (l3.length : Int) - (l1.length : Int) := ⟨_, rfl⟩
      rw [← hgn] at HG
      have HGN := Aside0.mk hgn
      clear hg hl3 ht3 hgn HE
      go_wp2_with fail
      refine HG.out.mono ?_
      rintro e w3 ⟨v3, rfl, hv3, hb3, hk3, ho3⟩
      have HS3 := Aside0.mk (HS.out.turn hv3 hb3 hk3 (fun k hk => ho3.elim (fun e => .inl (e ▸ hk)) (fun ⟨b, hb, hle⟩ => .inr (by rw [hb] at hk; injection hk with hk; omega))))
      clear hv3 hb3 hk3 ho3 HG HS
      obtain ⟨A3, c3, rfl, _, _⟩ := HS3.out.vw.slice
      have hc3 := HS3.out.vw.cell0
      have HOL := Aside0.mk (show out.length ≤ 1000000 by have := HX0.out; have := HL.out; omega)
      obtain ⟨gb, hgb⟩ : ∃ gb, decide (0 < gn) = gb := ⟨_, rfl⟩
      have HGB := Aside0.mk hgb
      go_upto_if 68 with fail
      go_cut [8, 68] from 69 to 77 (fun v8 _ w4 => Aside0 (RS N0 w w1 w4 g v (.slice A3 l3.length c3) l3 top3 v8 (if l1.length < l3.length then out ++ [⟨2, (l3.length : Int), []⟩] else out)))
      case first =>
        cases gb with
        | true =>
          have HGR := Aside0.mk (show l1.length < l3.length by have := of_decide_eq_true HGB.out; have := HGN.out; omega)
          go_wp2_with (first | ((with_reducible refine gate_builtin (b := .append) (xs := #[.tmp 69, .tmp 76]) rfl ?_); (try (refine gate_guard (by rfl) ?_; dsimp only)); at_builtin; refine TN_append k65 (by decide) (w0 := w3) (N0 := w1.heap.size) rfl (.tmp 69) (.tmp 76) 36 (.agg #[.int .i64 0, .int .i64 0, .slice none 0 0]) 40 rfl Tryd.underlying36 (by kernel_rfl) rfl (by decide) (by omega) (.slice Ao out.length co) out (⟨2, (l3.length : Int), []⟩ : Tl) [.int .i64 2, .int .i64 (l3.length : Int), .slice none 0 0] rfl ?aX FK9_told0 HS3.out.told (Below.refl _ _) ?aS ?aL ?_; (case aX => exact rfl); (case aS => exact HS3.out.sz); (case aL => have := HOL.out; omega); intro v30 w5 ho hb hg hat; have HS5 := Aside0.mk (HS3.out.tell HNN.out ho hg); clear ho hb hg hat))
          go_meet
          case rel => exact ⟨by rw [if_pos HGR.out]; exact HS5.out⟩
        | false =>
          have HGR := Aside0.mk (show ¬ l1.length < l3.length by have := of_decide_eq_false HGB.out; have := HGN.out; omega)
          go_wp2_with fail
          go_meet
          case rel => exact ⟨by rw [if_neg HGR.out]; exact HS3.out⟩
      case rest =>
        have HS4 := hcut
        obtain ⟨out3, ho3⟩ : ∃ o, o = (if l1.length < l3.length then out ++ [(⟨2, (l3.length : Int), []⟩ : Tl)] else out) := ⟨_, rfl⟩
        rw [← ho3] at HS4
        have HO3 := Aside0.mk ho3
        have HSY := Aside0.mk (show syncR FL q (risL ms 0) l top = (((flgR FL ls l3.length 0 l3 out3).1, top3), (flgR FL ls l3.length 0 l3 out3).2) by
          unfold syncR
          rw [← HLS.out, ← HR.out]
          dsimp only
          rw [← HL3.out, ← HT3.out, ← ho3])
        clear hc3 ho3 HS3
        have hc4 := HS4.out.vw.cell0
        go_wp2_with fail
        clear hc4
        have HLN3 := Aside0.mk (show l3.length ≤ 2000000 ∧ out3.length ≤ 1000001 from ⟨by
          have := growR_len FL ls l1 top
          rw [← HL3.out] at this
          have := HX0.out; have := HL.out; have := HLL.out
          omega, by
          rw [HO3.out]
          have := HOL.out
          split
          · rw [List.length_append, List.length_singleton]; omega
          · omega⟩)
        go_loopg [10, 8] l3.length (fun kq v10 v8 w4 => ∃ (x : Int) (i : Nat) (l4 : List Rp) (out4 : List Tl), v10 = .int .i64 x ∧ Aside0 (x = i ∧ i + kq = l3.length ∧ l4.length = l3.length ∧ out4.length ≤ out3.length + i) ∧ Aside0 (flgR FL ls kq i l4 out4 = flgR FL ls l3.length 0 l3 out3) ∧ Aside0 (RS N0 w w1 w4 g v (.slice A3 l3.length c3) l4 top3 v8 out4))
        case atStart => exact ⟨0, 0, l3, out3, rfl, ⟨rfl, by omega, rfl, by omega⟩, ⟨rfl⟩, HS4⟩
        case round =>
          obtain ⟨x, i, l4, out4, rfl, HX4, HE4, HS5⟩ := hrel
          clear HS4
          have hc5 := HS5.out.vw.cell0
          cases gk with
          | zero =>
            have c3b : decide (x < (l3.length : Int)) = false := decide_eq_false (by have := HX4.out; omega)
            go_wp2_with fail
            go_ret
            refine ⟨.slice A3 l3.length c3, u8, rfl, ?_, ?_, HS5.out.bel, ?_⟩
            · rw [HSY.out, ← HE4.out]; exact HS5.out.told.lower HB1.out.size
            · rw [HSY.out, ← HE4.out]; exact HS5.out.vw
            · exact HV.out.chg (Kept.then_ (Kept.of_below HB1.out _) HS5.out.kept (fun k hk => .inl hk))
          | succ k3 =>
            have HIX := Aside0.mk (show (i : Int) = x ∧ i < l4.length ∧ i < l3.length by have := HX4.out; omega)
            have p0 : 0 ≤ x := by have := HX4.out; omega
            have p1 : x < (l4.length : Int) := by have := HIX.out; omega
            have c3b : decide (x < (l3.length : Int)) = true := decide_eq_true (by have := HIX.out; omega)
            obtain ⟨rb, cap, e5, hrb, hrl, cells, hrh⟩ := Kd.N_form HS5.out.vw.row (by have := HIX.out; omega)
            simp only [Value.slice.injEq] at e5
            obtain ⟨e5, e6, e7⟩ := e5
            subst e5 e7
            clear e6
            have hC := (Kd.N_reads' HS5.out.vw.row).2.2
            try rw [show l3.length = l4.length from by have := HX4.out; omega] at hC
            obtain ⟨ad, A6, c6, e, hx0, hx1, _, _⟩ := at_T84 hC x p0 p1
            have had := Aside0.mk (Option.some.inj e)
            rw [had.out] at hc5
            obtain ⟨u, hu⟩ : ∃ u, u = (rd_T84 l4 x).f0 := ⟨_, rfl⟩
            rw [← hu] at hx0
            obtain ⟨kq, r, hr, hrc⟩ := find_is FL ls u (by have := HL.out; have := HLL.out; omega)
            have HR1 := Aside0.mk hr
            have HRC := Aside0.mk hrc
            have HU := Aside0.mk hu
            have HPX := Aside0.mk (And.intro p0 p1)
            replace p0 := eq_true p0
            replace p1 := eq_true (show x < (l3.length : Int) by have := HIX.out; omega)
            have HRB := Aside0.mk hrb
            have HRH := Aside0.mk hrh
            clear hr hrc hu hC hx1 e hrb hrl hrh
            go_wp2_with fail
            refine (haversackref18_find.calls kq A2 c2 ls u r _ (Kd.F_now (HS5.out.mails HN.out HPV.out)) HLC.out HR1.out).mono ?_
            rintro e w5 ⟨rfl, nq, rfl⟩
            have hb2 := pw_below_drewN (Below.refl wr.heap.size wr) nq
            have HS6 := Aside0.mk (HS5.out.below hb2)
            have HRH6 := Aside0.mk ((hb2.block rb (blk_lt HRH.out)).trans HRH.out)
            clear hb2
            generalize hw5 : wr.drewN nq = w5 at HS6 HRH6 ⊢
            have hE := HE4.out
            rw [flgR, HIX.out.1, ← HU.out] at hE
            clear hx0 hc5 hw5 HE4 HRH
            cases hu2 : inU ls u with
            | false =>
              have hr0 : decide (r < 0) = true := decide_eq_true (by
                rcases HRC.out with h | h
                · omega
                · rw [h.1] at hu2; cases hu2)
              rw [if_neg (by rw [hu2]; simp)] at hE
              have HE := Aside0.mk hE
              clear hE
              go_wp2_with fail
              go_roundg k3
              case measure => omega
              case rel => exact ⟨wrap64 (x + 1), i + 1, l4, out4, rfl, ⟨by have := HX4.out; have := HLN3.out; unfold wrap64; omega⟩, ⟨HE.out⟩, HS6⟩
            | true =>
              have hrr : 0 ≤ r ∧ r < (ls.length : Int) ∧ flagsU FL ls u = FL (rd_T43 ls r).f1 := HRC.out.elim (fun h => by rw [h.1] at hu2; cases hu2) (fun h => h.2)
              have hr0 : decide (r < 0) = false := decide_eq_false (by omega)
              obtain ⟨az, B5, d5, rfl, hz0, hz1, hz2, hz3, hz4, hz5, hz6, hz7, hz8, hz9, hz10, hz11, hlz, hiz⟩ := at_T43 (Kd.F_now (HS6.out.mails HN.out HPV.out)) r hrr.1 hrr.2.1
              obtain ⟨m, hm⟩ : ∃ m, m = rd_T43 ls r := ⟨_, rfl⟩
              rw [← hm] at hz1 hlz hiz
              have hfl := hrr.2.2
              rw [← hm] at hfl
              have HFLU := Aside0.mk hfl
              have HKM := Aside0.mk (show haversackref16_Flags.f kf m.f1 = some (FL m.f1) from HK.out _ (risL_mem ms 0 (by rw [← HLS.out, hm]; exact rd_mem ls r.toNat (by omega) |> fun h => by rwa [show ((r.toNat : Nat) : Int) = r by omega] at h)))
              have HIZ := Aside0.mk (And.intro hiz hlz)
              have q0 := eq_true hrr.1
              have q1 := eq_true hrr.2.1
              clear hrr hm hfl hlz hiz hz0 hz2 hz3 hz4 hz5 hz6 hz7 hz8 hz9 hz10 hz11
              go_wp2_with fail
              refine (haversackref16_Flags.calls kf B5 d5 m.f1 (FL m.f1) _ HIZ.out.1 HIZ.out.2 HKM.out).mono ?_
              rintro e w7 ⟨vf, rfl, hr7, hb7⟩
              rw [← HFLU.out] at hr7
              obtain ⟨fl, hfl⟩ : ∃ fl, fl = flagsU FL ls u := ⟨_, rfl⟩
              rw [← hfl] at hr7 hE
              have HFE := Aside0.mk hfl
              have HRF := Aside0.mk hr7
              obtain ⟨Af, cf, ef⟩ := Kd.R_slice HRF.out
              subst ef
              have HS7 := Aside0.mk (HS6.out.below hb7)
              have HRH7 := Aside0.mk ((hb7.block rb (blk_lt HRH6.out)).trans HRH6.out)
              clear hr7 hb7 hfl hz1 HIZ q0 q1 HKM
              have hc7 := HS7.out.vw.cell0
              rw [had.out] at hc7
              have hC := (Kd.N_reads' HS7.out.vw.row).2.2
              try rw [show l3.length = l4.length from by have := HX4.out; omega] at hC
              obtain ⟨ad2, A6, c6, e2, hy0, hy1, hl6, hi6⟩ := at_T84 hC x HPX.out.1 HPX.out.2
              obtain rfl : ad = ad2 := had.out.symm.trans (Option.some.inj e2)
              have HY1 := Aside0.mk hy1
              have HI6 := Aside0.mk (And.intro hi6 hl6)
              obtain ⟨ks, hks⟩ := Same16_ev fl (rd_T84 l4 x).f1 (Kd.C_max (Kd.R_reads' HRF.out).2.2)
              have HKS := Aside0.mk hks
              clear hy0 hC e2 hi6 hl6 hks
              go_wp2_with fail
              refine (haversackref16_Same.calls ks Af cf fl A6 c6 (rd_T84 l4 x).f1 _ _ (Kd.R_reads' HRF.out).2.2 (Kd.R_reads' HRF.out).2.1 HI6.out.1 HI6.out.2 HKS.out).mono ?_
              rintro e w8 ⟨rfl, n8, rfl⟩
              have hb8 := pw_below_drewN (Below.refl w7.heap.size w7) n8
              have HS8 := Aside0.mk (HS7.out.below hb8)
              have HRF8 := Aside0.mk (Kd.R_below HRF.out hb8)
              have HRH8 := Aside0.mk ((hb8.block rb (blk_lt HRH7.out)).trans HRH7.out)
              have hy8 := (hb8.cell (World.block_lt_of_cell? _ _ HY1.out)).trans HY1.out
              clear hb8 hy1
              generalize hw8 : w7.drewN n8 = w8 at HS8 HRF8 HRH8 hy8 ⊢
              have hc8 := HS8.out.vw.cell0
              rw [had.out] at hc8
              clear hc7 hw8
              by_cases hsm : fl = (rd_T84 l4 x).f1
              · have hsd : decide (fl = (rd_T84 l4 x).f1) = true := decide_eq_true hsm
                rw [if_neg (by rw [hsm]; exact fun h => h.2 rfl)] at hE
                have HE := Aside0.mk hE
                clear hE hsm
                go_wp2_with fail
                go_roundg k3
                case measure => omega
                case rel => exact ⟨wrap64 (x + 1), i + 1, l4, out4, rfl, ⟨by have := HX4.out; have := HLN3.out; unfold wrap64; omega⟩, ⟨HE.out⟩, HS8⟩
              · have hsd : decide (fl = (rd_T84 l4 x).f1) = false := decide_eq_false hsm
                rw [if_pos ⟨hu2, fun h => hsm h.symm⟩] at hE
                have HE := Aside0.mk hE
                clear hE hsm
                have hfz : w8.frozen? ⟨(ad.add (x.toNat * 2)).block, (ad.add (x.toNat * 2)).off + 1, none⟩ = false := by rw [← had.out, addr0]; exact blk_frozen HRH8.out _
                have hgr : g ≠ rb := by
                  rintro rfl
                  have := Kd.N_ne HS8.out.vw.row HS8.out.vw.blk (by decide)
                  exact this (by simp [Value.ownBlock])
                have HGR := Aside0.mk hgr
                have hv9 := RRow.setFlags HS8.out.vw.rrow i HIX.out.2.1 HRF8.out
                obtain ⟨W9, hW9⟩ : ∃ W9, W9 = w8.setCell ⟨rb, i * 2 + 1, none⟩ (.slice Af fl.length cf) := ⟨_, rfl⟩
                rw [← hW9] at hv9
                have hV9 : RW N0 W9 g (.slice (some ⟨rb, 0, none⟩) l3.length c3) (l4.set i ⟨(rd_T84 l4 i).f0, fl⟩) top3 := ⟨hW9 ▸ (Below.heap_setCell w8 ⟨rb, i * 2 + 1, none⟩ _ g hgr).trans HS8.out.vw.blk, HS8.out.vw.ge, hv9.1⟩
                have HS9 := Aside0.mk (HS8.out.turn hV9 (hW9 ▸ Below.setCell (Below.refl _ _) HRB.out _) (hW9 ▸ (Go.Proofs.YtmpngedfnheilaaDoorW.PrintWords.Kept.refl _ _).setCell (p := ⟨rb, i * 2 + 1, none⟩) (.inl (.inr rfl)) _) (fun k hk => .inl hk))
                have HRF9 := Aside0.mk (show ∃ base, Kd.R Kd.string 9 W9 base (fun _ => True) (.slice Af fl.length cf) fl from ⟨_, hW9 ▸ R_chg HRF8.out (Chg.setCell (T := TR) (p := ⟨rb, i * 2 + 1, none⟩) HRH8.out (by decide) _) (by decide)⟩)
                obtain ⟨Ao, co, rfl, _, _⟩ := HS9.out.told.slice
                obtain ⟨x1, hx1⟩ : ∃ x1, wrap64 (x + 1) = x1 := ⟨_, rfl⟩
                have HX1 := Aside0.mk (show x1 = x + 1 by have := HX4.out; have := HLN3.out; rw [← hx1]; unfold wrap64; omega)
                have hxw : IntKind.i64.wrap (x + 1) = x1 := (i64_w _).trans hx1
                have hset : w8.setCell ⟨(ad.add (x.toNat * 2)).block, (ad.add (x.toNat * 2)).off + 1, none⟩ (.slice Af fl.length cf) = W9 := by
                  rw [hW9, ← had.out, addr0, show x.toNat = i by have := HIX.out; omega]
                have HOL2 := Aside0.mk (show out4.length ≤ 4000000 by have := HX4.out; have := HLN3.out; omega)
                clear hgr hv9 hV9 hx1 hW9
                go_upto_region 19 with fail
                try rw [hset]
                clear hset hy8 hc8 hfz
                go_wp2_with (first | ((with_reducible refine gate_builtin (b := .append) (xs := #[.tmp 124, .tmp 129]) rfl ?_); (try (refine gate_guard (by rfl) ?_; dsimp only)); at_builtin; refine TN_append k65 (by decide) (w0 := W9) (N0 := w1.heap.size) rfl (.tmp 124) (.tmp 129) 36 (.agg #[.int .i64 0, .int .i64 0, .slice none 0 0]) 40 rfl Tryd.underlying36 (by kernel_rfl) rfl (by decide) (by omega) (.slice Ao out4.length co) out4 (⟨3, x1, fl⟩ : Tl) [.int .i64 3, .int .i64 x1, .slice Af fl.length cf] rfl ?aX (FK9_told HRF9.out.choose_spec) HS9.out.told (Below.refl _ _) ?aS ?aL ?_; (case aX => exact rfl); (case aS => exact HS9.out.sz); (case aL => have := HOL2.out; omega); intro v30 w10 ho hb hg hat; have HS10 := Aside0.mk (HS9.out.tell HNN.out ho hg); clear ho hb hg hat))
                go_roundg k3
                case measure => omega
                case rel => exact ⟨x1, i + 1, l4.set i ⟨(rd_T84 l4 i).f0, fl⟩, out4 ++ [⟨3, x1, fl⟩], rfl, ⟨by have := HX4.out; have := HX1.out; rw [List.length_append, List.length_set, List.length_singleton]; omega⟩, ⟨by rw [HX1.out]; have := HE.out; rw [HIX.out.1, ← HU.out]; exact this⟩, HS10⟩
    | succ n1 =>
      cases gk with
      | zero => exact absurd HX.out.2.1 (by omega)
      | succ k1 =>
        have p0 : 0 ≤ j := by have := HX.out; omega
        have p1 : j < (l1.length : Int) := by have := HX.out; omega
        have p0c : decide (0 ≤ j) = true := decide_eq_true p0
        cases q with
        | true =>
          clear p0 p1
          go_wp2_with fail
          go_roundg k1
          case measure => omega
          case rel => exact ⟨n1, wrap64 (j - 1), _, l1, out, rfl, ⟨by have := HX.out; have := HL.out; unfold wrap64; omega⟩, ⟨HE.out⟩, HS⟩
        | false =>
          obtain ⟨ad, A3, c3, e3, hx0, hx1, _, _⟩ := at_T84 (Kd.N_reads' HS.out.vw.row).2.2 j p0 p1
          subst e3
          have hE := HE.out
          rw [if_neg (by decide), expR, show ((n1 : Nat) : Int) = j by have := HX.out; omega] at hE
          have HE2 := Aside0.mk hE
          have HPJ := Aside0.mk (show 0 ≤ j ∧ j < (l1.length : Int) from ⟨p0, p1⟩)
          replace p0 := eq_true p0
          replace p1 := eq_true p1
          obtain ⟨u, hu⟩ : ∃ u, u = (rd_T84 l1 j).f0 := ⟨_, rfl⟩
          rw [← hu] at HE2 hx0
          obtain ⟨kq, r, hr, hrc⟩ := find_is FL ls u (by have := HL.out; have := HLL.out; omega)
          have HR := Aside0.mk hr
          have HRC := Aside0.mk hrc
          clear hE HE hr hrc hu
          go_wp2_with fail
          refine (haversackref18_find.calls kq A2 c2 ls u r _ (Kd.F_now (HS.out.mails HN.out HPV.out)) HLC.out HR.out).mono ?_
          rintro e w2 ⟨rfl, nq, rfl⟩
          have hb2 := pw_below_drewN (Below.refl wr.heap.size wr) nq
          have HS2 := Aside0.mk (HS.out.below hb2)
          clear hb2
          generalize hw2 : wr.drewN nq = w2 at HS2 ⊢
          have hc2 := HS2.out.vw.cell0
          cases hu2 : inU ls u with
          | true =>
            have hr0 : decide (r < 0) = false := decide_eq_false (by
              rcases HRC.out with h | h
              · rw [h.1] at hu2; cases hu2
              · omega)
            have hE := HE2.out
            rw [hu2, if_pos rfl] at hE
            have HE3 := Aside0.mk hE
            clear hE hx0 hx1 hc1 hw2 HS
            go_wp2_with fail
            go_roundg k1
            case measure => omega
            case rel => exact ⟨n1, wrap64 (j - 1), _, l1, out, rfl, ⟨by have := HX.out; have := HL.out; unfold wrap64; omega⟩, ⟨by rw [if_neg (by decide)]; exact HE3.out⟩, HS2⟩
          | false =>
            have hr0 : decide (r < 0) = true := decide_eq_true (by
              rcases HRC.out with h | h
              · omega
              · rw [h.1] at hu2; cases hu2)
            have hE := HE2.out
            rw [hu2, if_neg (by decide)] at hE
            have HE3 := Aside0.mk hE
            obtain ⟨j1, hj1⟩ : ∃ j1, wrap64 (j + 1) = j1 := ⟨_, rfl⟩
            have hj2 : j1 = j + 1 := by have := HX.out; have := HL.out; rw [← hj1]; unfold wrap64; omega
            have hjw1 : IntKind.i64.wrap (j + 1) = j1 := (i64_w _).trans hj1
            have HJ2 := Aside0.mk hj2
            have t0 := eq_true (show j ≤ (l1.length : Int) by have := HPJ.out; omega)
            have t1 := eq_true (show j1 ≤ (l1.length : Int) by have := HPJ.out; omega)
            have t2 := eq_true (show 0 ≤ j1 by have := HPJ.out; omega)
            have HTR := Aside0.mk (fun (W' : World) (hb : Below w2.heap.size w2 W') => (TN.trd (by decide) (HS2.out.below hb).vw.row : TRd k84 W' (some ad) l1))
            have HTK := Aside0.mk (show (l1.take j.toNat).length = j.toNat by rw [List.length_take]; have := HPJ.out; omega)
            have HEI := Aside0.mk (show l1.take j.toNat ++ l1.drop j1.toNat = l1.eraseIdx n1 by
              rw [List.eraseIdx_eq_take_drop_succ, show j.toNat = n1 by have := HX.out; omega, show j1.toNat = n1 + 1 by have := HX.out; omega])
            obtain ⟨m9, hm9⟩ : ∃ m9, m9 = (l1.eraseIdx n1).length := ⟨_, rfl⟩
            have HM9 := Aside0.mk hm9
            clear hm9
            have HCP := Aside0.mk (Kd.N_reads' HS2.out.vw.row).2.1
            have t3 := eq_true (show j ≤ (c1 : Int) by have := HPJ.out; have := HCP.out; omega)
            have hca := fun (o : Obj) => (HS2.out.vw.alloc o).cell0
            clear hE hj1 hj2 hx0 hx1 hc1 hw2 HS
            go_wp2_with fail
            go_region_law (first | ((refine TN_row_step k84 (by decide) (w0 := w2) (N0 := w2.heap.size) (by rfl) (.tmp 41) (.tmp 47) 78 (.agg #[.int .i64 0, .slice none 0 0]) 32 rfl Tryd.underlying78 (by kernel_rfl) rfl (by decide) (by omega) (.slice (some ⟨w2.heap.size, 0, none⟩) 0 0) [] (l1.take j.toNat) (some ad) j.toNat c1 rfl rfl (by rw [List.length_take]; have := HPJ.out; omega) (by with_reducible (repeat (first | apply TN.drewN | apply TN.drew)); exact TN.new0 _ _ (by decide) _) ((HTR.out _ (by with_reducible (repeat (first | apply below_alloc | apply pw_below_drewN | apply below_drew1)); exact Below.refl _ _)).take j.toNat (by have := HPJ.out; omega)) (by with_reducible (repeat (first | apply below_alloc | apply pw_below_drewN | apply below_drew1)); exact Below.refl _ _) (below_size (by with_reducible (repeat (first | apply below_alloc | apply pw_below_drewN | apply below_drew1)); exact Below.refl _ _)) (by have := HPJ.out; have := HX.out; have := HL.out; simp only [List.length_nil]; omega) ?_); intro v8 w8 hrow hb8 hg8 hat8; rw [List.nil_append] at hrow; obtain ⟨A8, c8, e8⟩ := Kd.N_slice hrow; subst e8; rw [HTK.out] at hrow; have hc8 := (HS2.out.below hb8).vw.cell0) | ((refine TN_row_step k84 (by decide) (w0 := w2) (N0 := w2.heap.size) (by rfl) (.tmp 48) (.tmp 55) 78 (.agg #[.int .i64 0, .slice none 0 0]) 32 rfl Tryd.underlying78 (by kernel_rfl) rfl (by decide) (by omega) (.slice A8 j.toNat c8) (l1.take j.toNat) (l1.drop j1.toNat) (if c1 = j1.toNat then some ad else some (ad.add (j1.toNat * 2))) (l1.length - j1.toNat) (c1 - j1.toNat) rfl rfl (by rw [List.length_drop]) (by with_reducible (repeat (first | exact hrow | apply TN.drewN | apply TN.drew))) ((HTR.out _ (by with_reducible (repeat (first | exact hb8 | apply pw_below_drewN | apply below_drew1)))).drop j1.toNat c1 (by have := HPJ.out; have := HJ2.out; omega) HCP.out) (by with_reducible (repeat (first | exact hb8 | apply pw_below_drewN | apply below_drew1))) (below_size (by with_reducible (repeat (first | exact hb8 | apply pw_below_drewN | apply below_drew1)))) (by have := HPJ.out; have := HX.out; have := HL.out; rw [List.length_take]; omega) ?_); intro v9 w9 hrow9 hb9 hg9 hat9; rw [HEI.out] at hrow9; obtain ⟨A9, c9, e9⟩ := Kd.N_slice hrow9; rw [← HM9.out] at e9; subst e9; have hf9 := blk_frozen ((HS2.out.below hb9).vw.blk) 0; have hc9 := (HS2.out.below hb9).vw.cell0))
            all_goals
              have HLE := Aside0.mk (show (l1.eraseIdx n1).length = l1.length - 1 from List.length_eraseIdx_of_lt (by have := HX.out; omega))
              have HS9 := Aside0.mk ((HS2.out.below hb9).setRow (hrow9.lower HS2.out.ge) (fun k hk => Nat.le_trans HS2.out.sz (Kd.N_base hrow9 k hk)))
              clear hrow hb8 hg8 hat8 hrow9 hb9 hg9 hat9 hf9 hc9 hc8 hca
              try generalize (if c1 = j1.toNat then some ad else some (ad.add (j1.toNat * 2))) = A55
              have HOL := Aside0.mk (show out.length + n1 ≤ 1000000 by have := HX.out; have := HL.out; omega)
              go_wp2_with (first | ((with_reducible refine gate_builtin (b := .append) (xs := #[.tmp 59, .tmp 63]) rfl ?_); (try (refine gate_guard (by rfl) ?_; dsimp only)); at_builtin; refine TN_append k65 (by decide) (w0 := (w9.setCell ⟨g, 0, none⟩ (.slice A9 m9 c9))) (N0 := w1.heap.size) rfl (.tmp 59) (.tmp 63) 36 (.agg #[.int .i64 0, .int .i64 0, .slice none 0 0]) 40 rfl Tryd.underlying36 (by kernel_rfl) rfl (by decide) (by omega) (.slice Ao out.length co) out (⟨1, j1, []⟩ : Tl) [.int .i64 1, .int .i64 j1, .slice none 0 0] rfl ?aX FK9_told0 HS9.out.told (Below.refl _ _) ?aS ?aL ?_; (case aX => exact sl_set w9 _ _); (case aS => exact HS9.out.sz); (case aL => have := HOL.out; omega); intro v30 w5 ho hb hg hat; have HS10 := Aside0.mk (HS9.out.tell HNN.out ho hg); clear ho hb hg hat))
              all_goals
                go_roundg k1
                case measure => omega
                case rel => exact ⟨n1, wrap64 (j - 1), _, l1.eraseIdx n1, out ++ [⟨1, j1, []⟩], rfl, ⟨by have := HX.out; have := HL.out; have := HLE.out; rw [List.length_append, List.length_singleton]; unfold wrap64; omega⟩, ⟨by rw [if_neg (by decide), HJ2.out]; exact HE3.out⟩, HS10⟩
end Go.Proofs.YtmpngedfnheilaaDoor.PP
