/- YtmpngedfnheilaaDoorMyViewF, as far as ViewPlays needs it (prune.py). -/
import Derived.Test.YtmpngedfnheilaaDoorViewPlaysMyViewE
namespace Go.Proofs.YtmpngedfnheilaaDoor.PP
open Go.RowKit Go.Proofs.YtmpngedfnheilaaDoorW.PrintWords Go.Proofs.YtmpngedfnheilaaDoorW.PrintLast Go.Proofs.YtmpngedfnheilaaDoorW.PrintMore
open Go.Proofs.YtmpngedfnheilaaDoor.My
set_option linter.unusedVariables false
set_option linter.unusedSimpArgs false
def growL (FL : List ByteArray → List ByteArray) : List Ml → List Pl → Int → List Pl × Int
  | [], l, top => (l, top)
  | m :: ms, l, top => if top < m.f0 then growL FL ms (l ++ [⟨m.f0, FL m.f1⟩]) m.f0 else growL FL ms l top
theorem growL_drop (FL : List ByteArray → List ByteArray) (ms : List Ml) (i : Nat) (h : i < ms.length) (l : List Pl) (top : Int) : growL FL (ms.drop i) l top = if top < (rd_T43 ms i).f0 then growL FL (ms.drop (i + 1)) (l ++ [⟨(rd_T43 ms i).f0, FL (rd_T43 ms i).f1⟩]) (rd_T43 ms i).f0 else growL FL (ms.drop (i + 1)) l top := by
  have e : ms.drop i = rd_T43 ms i :: ms.drop (i + 1) := by
    rw [List.drop_eq_getElem_cons h]
    unfold rd_T43
    simp [List.getD_eq_getElem?_getD, List.getElem?_eq_getElem h]
  rw [e]
  rfl
/-- What turning a View may turn: its own block, its row's. -/
def VS (g : Nat) (v : Value) (k : Nat) : Prop := k = g ∨ v.ownBlock = some k
theorem VW.drew {N0 : Nat} {w : World} {g : Nat} {v : Value} {l : List Pl} {top : Int} (h : VW N0 w g v l top) : VW N0 w.drew g v l top := h.below (below_drew (Below.refl _ _))
theorem smk {W : World} {mB : Nat} {m : Ml} {A1 : Option Addr} {c1 : Nat} (h : W.heap[mB]? = some (.cells (mcs m A1 c1).toArray 43 (0, 0))) :
    W.heap[mB]? = some (.cells (mcs m A1 c1).toArray 43 (0, 0)) ∧ W.cell? ⟨mB, 0, none⟩ = some (.int .i64 m.f0) ∧ W.cell? ⟨mB, 1, none⟩ = some (.slice A1 m.f1.length c1) :=
  ⟨h, (blk_cell h 0).trans rfl, (blk_cell h 1).trans rfl⟩
set_option maxHeartbeats 8000000 in
set_option maxRecDepth 100000 in
theorem viewGrow_ok (FL : List ByteArray → List ByteArray) (kf N0 g : Nat) (v : Value) (l : List Pl) (top : Int) (P : Nat → Prop) (A : Option Addr) (c : Nat) (ms : List Ml) (w : World) (h : VW N0 w g v l top)
    (hF : Kd.F k43 w P A ms.length ms) (hP : ∀ k, P k → k < w.heap.size → ¬ VS g v k) (hK : ∀ i, i < ms.length → search_Flags.f kf (rd_T43 ms i).f1 = some (FL (rd_T43 ms i).f1)) (hl : l.length + ms.length ≤ 1000000) :
    Calls Tryd.prog 35 #[.pointer (some ⟨g, 0, none⟩), .slice A ms.length c] w fun e w' => ∃ v' : Value, e = .returned (.bool (decide (l.length < (growL FL ms l top).1.length))) ∧ VW N0 w' g v' (growL FL ms l top).1 (growL FL ms l top).2 ∧ Below N0 w w' ∧ Kept w w' (VS g v) ∧ (v'.ownBlock = v.ownBlock ∨ ∃ b, v'.ownBlock = some b ∧ w.heap.size ≤ b) := by
  have HF := Aside0.mk hF
  have HPP := Aside0.mk hP
  have HKF := Aside0.mk hK
  have HL := Aside0.mk hl
  have HG := Aside0.mk h.ge
  have HV0 := Aside0.mk h
  obtain ⟨A0, c0, rfl, hlc, hC⟩ := h.slice
  have hc0 := h.cell0
  clear hC hlc h hF hP hK hl
  go_enter Tryd.func35, Tryd.ntmps35
  go_wp2_with fail
  go_loopg [16] ms.length (fun kq v16 wr => ∃ (x : Int) (i : Nat) (v1 : Value) (l1 : List Pl) (top1 : Int), v16 = .int .i64 x ∧ Aside0 (x = i ∧ i + kq = ms.length) ∧ Aside0 (growL FL (ms.drop i) l1 top1 = growL FL ms l top) ∧ Aside0 (VW N0 wr g v1 l1 top1) ∧ Aside0 (Below N0 w wr) ∧ Aside0 (Kept w wr (VS g (.slice A0 l.length c0))) ∧ Aside0 (v1.ownBlock = (Value.slice A0 l.length c0).ownBlock ∨ ∃ b, v1.ownBlock = some b ∧ w.heap.size ≤ b) ∧ Aside0 (l1.length ≤ l.length + i))
  case atStart => exact ⟨0, 0, _, l, top, rfl, ⟨rfl, by omega⟩, ⟨rfl⟩, HV0, ⟨Below.refl _ _⟩, ⟨Kept.refl _ _⟩, ⟨.inl rfl⟩, ⟨Nat.le_refl _⟩⟩
  case round =>
    obtain ⟨x, i, v1, l1, top1, rfl, HX, HE, HV, HB, HKp, HO, HLn⟩ := hrel
    clear hc0 HV0
    cases gk with
    | zero =>
      have c1b : decide (x < (ms.length : Int)) = false := decide_eq_false (by have := HX.out; omega)
      have hD := HE.out
      rw [List.drop_of_length_le (by have := HX.out; omega)] at hD
      have HD := Aside0.mk (show (l1, top1) = growL FL ms l top from hD)
      clear hD HE
      have hc0 := HV.out.cell0
      obtain ⟨A1, c1, rfl, _, _⟩ := HV.out.slice
      go_wp2_with fail
      go_ret
      refine ⟨_, ?_, ?_, HB.out, HKp.out, HO.out⟩
      · rw [← HD.out]; simp
      · rw [← HD.out]; exact HV.out
    | succ k1 =>
      have q1 : x < (ms.length : Int) := by have := HX.out; omega
      have q0 : 0 ≤ x := by have := HX.out; omega
      have c1b : decide (x < (ms.length : Int)) = true := decide_eq_true q1
      have HF1 := Aside0.mk (Kd.F_step (Kd.F_bound HF.out) (fun k hk hlt => HKp.out.2 k hlt (HPP.out k hk.1 hk.2)))
      obtain ⟨ad, cs, rfl, hcl, hK, hcc, _⟩ := Kd.F_get HF1.out z43 x q0 q1
      obtain ⟨A1, c1, rfl, hl1, hf1⟩ := k43_openF hK
      obtain ⟨ad', A1', c1', e', hx0, hx1, hx2, hx3, hx4, hx5, hx6, hx7, hx8, hx9, hx10, hx11, hla, hia⟩ := at_T43 (Kd.F_now HF1.out) x q0 q1
      cases e'
      have hv := hcc 1 _ rfl
      rw [add_field _ _ 1 (by omega)] at hv
      replace hv := Option.some.inj (hv.symm.trans hx1)
      rw [← hv] at hx1
      clear hv hcc hcl hla hia A1' c1'
      have HFS := Aside0.mk (show Kd.F Kd.string wr _ A1 (rd_T43 ms x).f1.length (rd_T43 ms x).f1 from hf1)
      have HLE := Aside0.mk (show (rd_T43 ms x).f1.length ≤ c1 from hl1)
      replace hx1 : wr.cell? ⟨(ad.add (x.toNat * 12)).block, (ad.add (x.toNat * 12)).off + 1, none⟩ = some (.slice A1 (rd_T43 ms x).f1.length c1) := hx1
      clear hK hl1 hf1
      have hS := growL_drop FL ms i (by have := HX.out; omega) l1 top1
      have hfl := HKF.out i (by have := HX.out; omega)
      rw [show (i : Int) = x by have := HX.out; omega] at hS hfl
      have hE := HE.out
      rw [hS] at hE
      have q0b := eq_true q0
      have q1b := eq_true q1
      clear q0 q1 hS HE
      generalize rd_T43 ms x = m at hE hx0 hx1 hx2 hx3 hx4 hx5 hx6 hx7 hx8 hx9 hx10 hx11 HFS HLE hfl
      have HE := Aside0.mk hE
      have HFL := Aside0.mk hfl
      clear hE hfl
      go_wp2_with fail
      obtain ⟨W5, hW5⟩ : ∃ W5, W5 = wr.alloc (.cells (mcs m A1 c1).toArray 43) := ⟨_, rfl⟩
      rw [← hW5]
      have hblk : W5.heap[wr.heap.size]? = some (.cells (mcs m A1 c1).toArray 43 (0, 0)) := by rw [hW5]; exact blk_new _ _
      have hv5 : VW N0 W5 g v1 l1 top1 := by rw [hW5]; exact HV.out.alloc _
      have hmg : wr.heap.size ≠ g := fun e => by have := HV.out.lt; omega
      have hmr : some wr.heap.size ≠ v1.ownBlock := fun e => by have := Kd.N_lt HV.out.row _ e.symm; omega
      have hb5 : Below N0 w W5 := by rw [hW5]; exact HB.out.alloc (by have := HV.out.lt; have := HV.out.ge; omega) _
      have hk5 : Kept w W5 (VS g (.slice A0 l.length c0)) := by rw [hW5]; exact HKp.out.alloc _
      have hfs5 := Kd.F_alloc HFS.out (.cells (mcs m A1 c1).toArray 43)
      rw [← hW5] at hfs5
      have hm0 := (blk_cell hblk 0).trans (show _ = some (Value.int .i64 m.f0) from rfl)
      have hc1 := hv5.cell1
      clear hx0 hx1 hx2 hx3 hx4 hx5 hx6 hx7 hx8 hx9 hx10 hx11 HF1 HFS HB HKp HV hW5
      generalize wr.heap.size = mB at hblk hmg hmr hm0 ⊢
      have HV5 := Aside0.mk hv5
      have HB5 := Aside0.mk hb5
      have HK5 := Aside0.mk hk5
      have HFS := Aside0.mk hfs5
      have HBK := Aside0.mk hblk
      have HMG := Aside0.mk hmg
      have HMR := Aside0.mk hmr
      clear hv5 hb5 hk5 hfs5 hblk hmg hmr
      by_cases d : top1 < m.f0
      · have db : decide (top1 < m.f0) = true := decide_eq_true d
        have hE := HE.out
        rw [if_pos d] at hE
        have HE := Aside0.mk hE
        have HD := Aside0.mk d
        have hfz := blk_frozen HV5.out.blk 1
        clear d hE
        go_wp2_with fail
        repeat (go_quiet (fail))
        go_wp2_with fail
        clear hm0
        generalize hW6 : (W5.drewN nq).setCell ⟨g, 1, none⟩ (.int .i64 m.f0) = W6
        have hv6 : VW N0 W6 g v1 l1 m.f0 := hW6 ▸ (HV5.out.drewN nq).set1 m.f0
        have hblk6 : W6.heap[mB]? = some (.cells (mcs m A1 c1).toArray 43 (0, 0)) := hW6 ▸ (Below.heap_setCell (W5.drewN nq) ⟨g, 1, none⟩ _ mB HMG.out).trans HBK.out
        have hb6 : Below N0 w W6 := hW6 ▸ (pw_below_drewN HB5.out nq).setCell HG.out _
        have hk6 : Kept w W6 (VS g (.slice A0 l.length c0)) := hW6 ▸ (HK5.out.drewN nq).setCell (.inl (.inl rfl)) _
        have hfs6 := Kd.F_far (Kd.F_drewN HFS.out nq) (p := ⟨g, 1, none⟩) (fun k hk e => HPP.out k hk.1 hk.2 (.inl e)) (.int .i64 m.f0)
        rw [hW6] at hfs6
        have hm0 := (blk_cell hblk6 0).trans (show _ = some (Value.int .i64 m.f0) from rfl)
        have hm1 := (blk_cell hblk6 1).trans (show _ = some (Value.slice A1 m.f1.length c1) from rfl)
        have hg0 := hv6.cell0
        have hng := Kd.N_ne hv6.row hv6.blk (by decide)
        have hnn : N0 ≤ W6.heap.size := by have := hv6.lt; have := hv6.ge; omega
        have HV6 := Aside0.mk hv6
        have HB6 := Aside0.mk hb6
        have HK6 := Aside0.mk hk6
        have HFS6 := Aside0.mk hfs6
        have HBK6 := Aside0.mk hblk6
        have HNG := Aside0.mk hng
        have HNN := Aside0.mk hnn
        clear hfz hc1 HV5 HB5 HK5 HFS HBK hW6 hv6 hb6 hk6 hfs6 hblk6 hng hnn W5
        obtain ⟨Av, cv, rfl, _, _⟩ := HV6.out.slice
        go_region_law (first | ((rw [if_pos (by rfl)]); go_simp; go_at_call 39; refine (search_Flags.calls kf A1 c1 m.f1 (FL m.f1) _ (Kd.F_now (by repeat (first | exact HFS6.out | apply Kd.F_drewN | apply Kd.F_drew))) HLE.out HFL.out).mono ?_; rintro e w7 ⟨vf, rfl, hr7, hb7⟩; have HRF := Aside0.mk hr7; obtain ⟨Af, cf, ef⟩ := Kd.R_slice HRF.out; subst ef; have hblk7 := (hb7.block mB (blk_lt HBK6.out)).trans HBK6.out; have HV7 := Aside0.mk (show VW N0 w7 g (.slice Av l1.length cv) l1 m.f0 by first | exact (HV6.out.drewN _).below hb7 | exact HV6.out.drew.below hb7 | exact HV6.out.below hb7); have HB7 := Aside0.mk (show Below N0 w w7 from (show Below N0 w _ by repeat (first | exact HB6.out | apply pw_below_drewN | apply below_drew1)).trans (hb7.mono HNN.out)); have HK7 := Aside0.mk (HK6.out.below (show Below W6.heap.size W6 w7 by first | exact hb7 | exact Below.trans (by repeat (first | exact Below.refl _ _ | apply pw_below_drewN | apply below_drew1)) hb7)); have HNN7 := Aside0.mk (Nat.le_trans HNN.out hb7.size); have hc7 := HV7.out.cell0; have hc7a := (fun (o : Obj) => (HV7.out.alloc o).cell0); have hm70 := (smk hblk7).2.1; have hm71 := (smk hblk7).2.2; clear hr7 hb7; go_wp2_with fail) | (refine PRow_append_step (w0 := w) (N0 := N0) (by rfl) (.tmp 37) (.tmp 44) 66 (.agg #[.int .i64 0, .slice none 0 0]) 32 rfl Tryd.underlying66 (by kernel_rfl) rfl (by decide) (.slice Av l1.length cv) l1 (⟨m.f0, FL m.f1⟩ : Pl) [.int .i64 m.f0, .slice Af (FL m.f1).length cf] rfl rfl (FK9_mk HRF.out) HV7.out.prow HB7.out HNN7.out (by have := HL.out; have := HLn.out; have := HX.out; omega) ?_; intro v8 w8 hrow hb8 hg8 hat8; obtain ⟨A8, c8, e8⟩ := Kd.N_slice hrow; subst e8; have hblk8 := (hg8.block mB (blk_lt hblk7) HMR.out).trans hblk7; have hG8 := (hg8.block g HV7.out.lt HNG.out).trans HV7.out.blk; have hc8 := (blk_cell hG8 0).trans (show _ = some (Value.slice Av l1.length cv) from rfl); have hf8 := blk_frozen hG8 0))
        all_goals
          have hkr : ∀ k, (Value.slice Av l1.length cv).ownBlock = some k → VS g (.slice A0 l.length c0) k ∨ w.heap.size ≤ k := fun k hk => HO.out.elim (fun e => .inl (.inr (e ▸ hk))) (fun ⟨b, hb, hle⟩ => .inr (by rw [hb] at hk; injection hk with hk; omega))
          have HV9 := Aside0.mk (VW.set0 hG8 HG.out hrow)
          have HB9 := Aside0.mk (hb8.setCell (p := ⟨g, 0, none⟩) HG.out (.slice A8 (l1 ++ [(⟨m.f0, FL m.f1⟩ : Pl)]).length c8))
          have HK9 := Aside0.mk ((Kept.of_grown hg8 HK7.out hkr).setCell (p := ⟨g, 0, none⟩) (.inl (.inl rfl)) (.slice A8 (l1 ++ [(⟨m.f0, FL m.f1⟩ : Pl)]).length c8))
          have HO9 : Aside0 ((Value.slice A8 (l1 ++ [(⟨m.f0, FL m.f1⟩ : Pl)]).length c8).ownBlock = (Value.slice A0 l.length c0).ownBlock ∨ ∃ b, (Value.slice A8 (l1 ++ [(⟨m.f0, FL m.f1⟩ : Pl)]).length c8).ownBlock = some b ∧ w.heap.size ≤ b) := ⟨hat8.elim (fun e => HO.out.imp (fun e2 => e.trans e2) (fun ⟨b, hb, hle⟩ => ⟨b, e.trans hb, hle⟩)) (fun ⟨b, hb, hle⟩ => .inr ⟨b, hb, Nat.le_trans HK7.out.1 hle⟩)⟩
          clear hkr hat8 hrow hb8 hg8
          rw [show (l1 ++ [(⟨m.f0, FL m.f1⟩ : Pl)]).length = l1.length + 1 by simp] at HV9 HB9 HK9 HO9
          go_wp2_with fail
          go_roundg k1
          case measure => omega
          case rel => exact ⟨wrap64 (x + 1), i + 1, _, l1 ++ [(⟨m.f0, FL m.f1⟩ : Pl)], m.f0, rfl, ⟨by have := HX.out; have := HL.out; unfold wrap64; omega⟩, HE, HV9, HB9, HK9, HO9, ⟨by have := HLn.out; rw [List.length_append, List.length_singleton]; omega⟩⟩
      · have db : decide (top1 < m.f0) = false := decide_eq_false d
        have hE := HE.out
        rw [if_neg d] at hE
        have HE := Aside0.mk hE
        clear d hE
        go_wp2_with fail
        repeat (go_quiet (fail))
        go_wp2_with fail
        go_roundg k1
        case measure => omega
        case rel => exact ⟨wrap64 (x + 1), i + 1, v1, l1, top1, rfl, ⟨by have := HX.out; have := HL.out; unfold wrap64; omega⟩, HE, ⟨by repeat (first | exact HV5.out | apply VW.drewN)⟩, ⟨by repeat (first | exact HB5.out | apply pw_below_drewN)⟩, ⟨by repeat (first | exact HK5.out | apply Kept.drewN)⟩, HO, ⟨by have := HLn.out; omega⟩⟩
end Go.Proofs.YtmpngedfnheilaaDoor.PP
