/- YtmpngedfnheilaaDoorMyRB, as far as ViewPlays needs it (prune.py). -/
import Derived.Test.YtmpngedfnheilaaDoorViewPlaysMyRA
namespace Go.Proofs.YtmpngedfnheilaaDoor.PP
open Go.RowKit Go.Proofs.YtmpngedfnheilaaDoorW.PrintWords Go.Proofs.YtmpngedfnheilaaDoorW.PrintLast Go.Proofs.YtmpngedfnheilaaDoorW.PrintMore
open Go.Proofs.YtmpngedfnheilaaDoor.My
set_option linter.unusedVariables false
set_option linter.unusedSimpArgs false
def growR (FL : List ByteArray → List ByteArray) : List Ml → List Rp → Int → List Rp × Int
  | [], l, top => (l, top)
  | m :: ms, l, top => if top < m.f0 then growR FL ms (l ++ [⟨m.f0, FL m.f1⟩]) m.f0 else growR FL ms l top
theorem growR_drop (FL : List ByteArray → List ByteArray) (ms : List Ml) (i : Nat) (h : i < ms.length) (l : List Rp) (top : Int) : growR FL (ms.drop i) l top = if top < (rd_T43 ms i).f0 then growR FL (ms.drop (i + 1)) (l ++ [⟨(rd_T43 ms i).f0, FL (rd_T43 ms i).f1⟩]) (rd_T43 ms i).f0 else growR FL (ms.drop (i + 1)) l top := by
  have e : ms.drop i = rd_T43 ms i :: ms.drop (i + 1) := by
    rw [List.drop_eq_getElem_cons h]
    unfold rd_T43
    simp [List.getD_eq_getElem?_getD, List.getElem?_eq_getElem h]
  rw [e]
  rfl
theorem cell_heap {W W' : World} {p : Addr} {u : Value} (hc : W.cell? p = some u) (h : W'.heap[p.block]? = W.heap[p.block]?) : W'.cell? p = some u := by
  rw [← hc]; simp [World.cell?, h]
set_option maxHeartbeats 8000000 in
set_option maxRecDepth 100000 in
theorem refGrow_ok (FL : List ByteArray → List ByteArray) (kf N0 g : Nat) (v : Value) (l : List Rp) (top : Int) (P : Nat → Prop) (A : Option Addr) (c : Nat) (ms : List Ml) (w : World) (h : RW N0 w g v l top)
    (hF : Kd.F k43 w P A ms.length ms) (hP : ∀ k, P k → k < w.heap.size → ¬ VS g v k) (hK : ∀ i, i < ms.length → haversackref16_Flags.f kf (rd_T43 ms i).f1 = some (FL (rd_T43 ms i).f1)) (hl : l.length + ms.length ≤ 1000000) :
    Calls Tryd.prog 43 #[.pointer (some ⟨g, 0, none⟩), .slice A ms.length c] w fun e w' => ∃ v' : Value, e = .returned (.int .i64 (((growR FL ms l top).1.length : Int) - (l.length : Int))) ∧ RW N0 w' g v' (growR FL ms l top).1 (growR FL ms l top).2 ∧ Below N0 w w' ∧ Kept w w' (VS g v) ∧ (v'.ownBlock = v.ownBlock ∨ ∃ b, v'.ownBlock = some b ∧ w.heap.size ≤ b) := by
  have HF := Aside0.mk hF
  have HPP := Aside0.mk hP
  have HKF := Aside0.mk hK
  have HL := Aside0.mk hl
  have HG := Aside0.mk h.ge
  have HV0 := Aside0.mk h
  obtain ⟨A0, c0, rfl, hlc, hC⟩ := h.slice
  have hc0 := h.cell0
  clear hC hlc h hF hP hK hl
  go_enter Tryd.func43, Tryd.ntmps43
  go_wp2_with fail
  go_loopg [5, 6] ms.length (fun kq v5 v6 wr => ∃ (x : Int) (i : Nat) (v1 : Value) (l1 : List Rp) (top1 : Int) (nn : Int), v5 = .int .i64 nn ∧ v6 = .int .i64 x ∧ Aside0 (x = i ∧ i + kq = ms.length) ∧ Aside0 (growR FL (ms.drop i) l1 top1 = growR FL ms l top) ∧ Aside0 (RW N0 wr g v1 l1 top1) ∧ Aside0 (Below N0 w wr) ∧ Aside0 (Kept w wr (VS g (.slice A0 l.length c0))) ∧ Aside0 (v1.ownBlock = (Value.slice A0 l.length c0).ownBlock ∨ ∃ b, v1.ownBlock = some b ∧ w.heap.size ≤ b) ∧ Aside0 (l1.length ≤ l.length + i) ∧ Aside0 (nn = (l1.length : Int) - (l.length : Int) ∧ l.length ≤ l1.length))
  case atStart => exact ⟨0, 0, _, l, top, 0, rfl, rfl, ⟨rfl, by omega⟩, ⟨rfl⟩, HV0, ⟨Below.refl _ _⟩, ⟨Kept.refl _ _⟩, ⟨.inl rfl⟩, ⟨Nat.le_refl _⟩, ⟨by omega, Nat.le_refl _⟩⟩
  case round =>
    obtain ⟨x, i, v1, l1, top1, nn, rfl, rfl, HX, HE, HV, HB, HKp, HO, HLn, HNN0⟩ := hrel
    clear hc0 HV0
    cases gk with
    | zero =>
      have c1b : decide (x < (ms.length : Int)) = false := decide_eq_false (by have := HX.out; omega)
      have hD := HE.out
      rw [List.drop_of_length_le (by have := HX.out; omega)] at hD
      have HD := Aside0.mk (show (l1, top1) = growR FL ms l top from hD)
      clear hD HE
      have hc0 := HV.out.cell0
      obtain ⟨A1, c1, rfl, _, _⟩ := HV.out.slice
      go_wp2_with fail
      go_ret
      refine ⟨_, ?_, ?_, HB.out, HKp.out, HO.out⟩
      · rw [← HD.out, ← HNN0.out.1]; rfl
      · rw [← HD.out]; exact HV.out
    | succ k1 =>
      have q1 : x < (ms.length : Int) := by have := HX.out; omega
      have q0 : 0 ≤ x := by have := HX.out; omega
      have c1b : decide (x < (ms.length : Int)) = true := decide_eq_true q1
      have HF1 := Aside0.mk (Kd.F_step (Kd.F_bound HF.out) (fun k hk hlt => HKp.out.2 k hlt (HPP.out k hk.1 hk.2)))
      obtain ⟨ad, cs, rfl, hcl, hK, hcc, hin⟩ := Kd.F_get HF1.out z43 x q0 q1
      have hin := hin (by decide)
      obtain ⟨A1, c1, rfl, hl1, hf1⟩ := k43_openF hK
      obtain ⟨ad', A1', c1', e', hx0, hx1, hz2, hz3, hz4, hz5, hz6, hz7, hz8, hz9, hz10, hz11, hla, hia⟩ := at_T43 (Kd.F_now HF1.out) x q0 q1
      cases e'
      have hv := hcc 1 _ rfl
      rw [add_field _ _ 1 (by omega)] at hv
      replace hv := Option.some.inj (hv.symm.trans hx1)
      rw [← hv] at hx1
      clear hv hcc hcl hla hia A1' c1' hz2 hz3 hz4 hz5 hz6 hz7 hz8 hz9 hz10 hz11
      have HFS := Aside0.mk (show Kd.F Kd.string wr _ A1 (rd_T43 ms x).f1.length (rd_T43 ms x).f1 from hf1)
      have HLE := Aside0.mk (show (rd_T43 ms x).f1.length ≤ c1 from hl1)
      replace hx1 : wr.cell? ⟨(ad.add (x.toNat * 12)).block, (ad.add (x.toNat * 12)).off + 1, none⟩ = some (.slice A1 (rd_T43 ms x).f1.length c1) := hx1
      clear hK hl1 hf1
      have hS := growR_drop FL ms i (by have := HX.out; omega) l1 top1
      have hfl := HKF.out i (by have := HX.out; omega)
      rw [show (i : Int) = x by have := HX.out; omega] at hS hfl
      have hE := HE.out
      rw [hS] at hE
      have q0b := eq_true q0
      have q1b := eq_true q1
      clear q0 q1 hS HE
      generalize rd_T43 ms x = m at hE hx0 hx1 HFS HLE hfl
      have HE := Aside0.mk hE
      have HFL := Aside0.mk hfl
      have hag : (ad.add (x.toNat * 12)).block ≠ g := by rw [add_block]; exact fun e => HPP.out _ hin.1 hin.2 (.inl e)
      have har : some (ad.add (x.toNat * 12)).block ≠ v1.ownBlock := by
        rw [add_block]
        rcases HO.out with e | ⟨b, e, hle⟩
        · exact fun e2 => HPP.out _ hin.1 hin.2 (.inr (e.symm.trans e2.symm))
        · rw [e]; intro e2; injection e2 with e2; omega
      have HAG := Aside0.mk hag
      have HAR := Aside0.mk har
      have hc1 := HV.out.cell1
      clear hE hfl hin hag har
      by_cases d : top1 < m.f0
      · have db : decide (top1 < m.f0) = true := decide_eq_true d
        have hE := HE.out
        rw [if_pos d] at hE
        have HE := Aside0.mk hE
        have HD := Aside0.mk d
        have hfz := blk_frozen HV.out.blk 1
        clear d hE
        go_wp2_with fail
        repeat (go_quiet (fail))
        go_wp2_with fail
        generalize hW6 : (wr.drewN nq).setCell ⟨g, 1, none⟩ (.int .i64 m.f0) = W6
        have hv6 : RW N0 W6 g v1 l1 m.f0 := hW6 ▸ (HV.out.drewN nq).set1 m.f0
        have hmb : W6.heap[(ad.add (x.toNat * 12)).block]? = wr.heap[(ad.add (x.toNat * 12)).block]? := hW6 ▸ Below.heap_setCell (wr.drewN nq) ⟨g, 1, none⟩ _ _ HAG.out
        have hb6 : Below N0 w W6 := hW6 ▸ (pw_below_drewN HB.out nq).setCell HG.out _
        have hk6 : Kept w W6 (VS g (.slice A0 l.length c0)) := hW6 ▸ (HKp.out.drewN nq).setCell (.inl (.inl rfl)) _
        have hfs6 := Kd.F_far (Kd.F_drewN HFS.out nq) (p := ⟨g, 1, none⟩) (fun k hk e => HPP.out k hk.1 hk.2 (.inl e)) (.int .i64 m.f0)
        rw [hW6] at hfs6
        have hy0 := cell_heap hx0 hmb
        have hy1 := cell_heap hx1 hmb
        have hg0 := hv6.cell0
        have hng := Kd.N_ne hv6.row hv6.blk (by decide)
        have hnn : N0 ≤ W6.heap.size := by have := hv6.lt; have := hv6.ge; omega
        have HV6 := Aside0.mk hv6
        have HB6 := Aside0.mk hb6
        have HK6 := Aside0.mk hk6
        have HFS6 := Aside0.mk hfs6
        have HNG := Aside0.mk hng
        have HNN := Aside0.mk hnn
        clear hfz hc1 HV HB HKp HFS HF1 hW6 hv6 hb6 hk6 hfs6 hng hnn hmb hx0 hx1
        clear wr
        obtain ⟨Av, cv, rfl, _, _⟩ := HV6.out.slice
        go_region_law (first | ((rw [if_pos (by rfl)]); go_simp; go_at_call 45; refine (haversackref16_Flags.calls kf A1 c1 m.f1 (FL m.f1) _ (Kd.F_now (by repeat (first | exact HFS6.out | apply Kd.F_drewN | apply Kd.F_drew))) HLE.out HFL.out).mono ?_; rintro e w7 ⟨vf, rfl, hr7, hb7⟩; have HRF := Aside0.mk hr7; obtain ⟨Af, cf, ef⟩ := Kd.R_slice HRF.out; subst ef; have hmb7 := hb7.block (ad.add (x.toNat * 12)).block (World.block_lt_of_cell? _ _ (by first | exact hy0 | exact hy1)); have HV7 := Aside0.mk (show RW N0 w7 g (.slice Av l1.length cv) l1 m.f0 by first | exact (HV6.out.drewN _).below hb7 | exact HV6.out.drew.below hb7 | exact HV6.out.below hb7); have HB7 := Aside0.mk (show Below N0 w w7 from (show Below N0 w _ by repeat (first | exact HB6.out | apply pw_below_drewN | apply below_drew1)).trans (hb7.mono HNN.out)); have HK7 := Aside0.mk (HK6.out.below (show Below W6.heap.size W6 w7 by first | exact hb7 | exact Below.trans (by repeat (first | exact Below.refl _ _ | apply pw_below_drewN | apply below_drew1)) hb7)); have HNN7 := Aside0.mk (Nat.le_trans HNN.out hb7.size); have hc7 := HV7.out.cell0; have hc7a := (fun (o : Obj) => (HV7.out.alloc o).cell0); have hm70 := cell_heap hy0 hmb7; have hm71 := cell_heap hy1 hmb7; clear hr7 hb7; go_wp2_with fail) | (refine RRow_append_step (w0 := w) (N0 := N0) (by rfl) (.tmp 35) (.tmp 48) 78 (.agg #[.int .i64 0, .slice none 0 0]) 32 rfl Tryd.underlying78 (by kernel_rfl) rfl (by decide) (.slice Av l1.length cv) l1 (⟨m.f0, FL m.f1⟩ : Rp) [.int .i64 m.f0, .slice Af (FL m.f1).length cf] rfl rfl (FK9r_mk HRF.out) HV7.out.rrow HB7.out HNN7.out (by have := HL.out; have := HLn.out; have := HX.out; omega) ?_; intro v8 w8 hrow hb8 hg8 hat8; obtain ⟨A8, c8, e8⟩ := Kd.N_slice hrow; subst e8; have hG8 := (hg8.block g HV7.out.lt HNG.out).trans HV7.out.blk; have hc8 := (blk_cell hG8 0).trans (show _ = some (Value.slice Av l1.length cv) from rfl); have hf8 := blk_frozen hG8 0))
        all_goals
          have hkr : ∀ k, (Value.slice Av l1.length cv).ownBlock = some k → VS g (.slice A0 l.length c0) k ∨ w.heap.size ≤ k := fun k hk => HO.out.elim (fun e => .inl (.inr (e ▸ hk))) (fun ⟨b, hb, hle⟩ => .inr (by rw [hb] at hk; injection hk with hk; omega))
          have HV9 := Aside0.mk (RW.set0 hG8 HG.out hrow)
          have HB9 := Aside0.mk (hb8.setCell (p := ⟨g, 0, none⟩) HG.out (.slice A8 (l1 ++ [(⟨m.f0, FL m.f1⟩ : Rp)]).length c8))
          have HK9 := Aside0.mk ((Kept.of_grown hg8 HK7.out hkr).setCell (p := ⟨g, 0, none⟩) (.inl (.inl rfl)) (.slice A8 (l1 ++ [(⟨m.f0, FL m.f1⟩ : Rp)]).length c8))
          have HO9 : Aside0 ((Value.slice A8 (l1 ++ [(⟨m.f0, FL m.f1⟩ : Rp)]).length c8).ownBlock = (Value.slice A0 l.length c0).ownBlock ∨ ∃ b, (Value.slice A8 (l1 ++ [(⟨m.f0, FL m.f1⟩ : Rp)]).length c8).ownBlock = some b ∧ w.heap.size ≤ b) := ⟨hat8.elim (fun e => HO.out.imp (fun e2 => e.trans e2) (fun ⟨b, hb, hle⟩ => ⟨b, e.trans hb, hle⟩)) (fun ⟨b, hb, hle⟩ => .inr ⟨b, hb, Nat.le_trans HK7.out.1 hle⟩)⟩
          clear hkr hat8 hrow hb8 hg8
          rw [show (l1 ++ [(⟨m.f0, FL m.f1⟩ : Rp)]).length = l1.length + 1 by simp] at HV9 HB9 HK9 HO9
          go_wp2_with fail
          go_roundg k1
          case measure => omega
          case rel => exact ⟨wrap64 (x + 1), i + 1, _, l1 ++ [(⟨m.f0, FL m.f1⟩ : Rp)], m.f0, wrap64 (nn + 1), rfl, rfl, ⟨by have := HX.out; have := HL.out; unfold wrap64; omega⟩, HE, HV9, HB9, HK9, HO9, ⟨by have := HLn.out; rw [List.length_append, List.length_singleton]; omega⟩, ⟨by have := HNN0.out; have := HLn.out; have := HL.out; have := HX.out; rw [List.length_append, List.length_singleton]; unfold wrap64; omega⟩⟩
      · have db : decide (top1 < m.f0) = false := decide_eq_false d
        have hE := HE.out
        rw [if_neg d] at hE
        have HE := Aside0.mk hE
        clear d hE
        go_wp2_with fail
        repeat (go_quiet (fail))
        go_wp2_with fail
        go_roundg k1
        case measure => omega
        case rel => exact ⟨wrap64 (x + 1), i + 1, v1, l1, top1, nn, rfl, rfl, ⟨by have := HX.out; have := HL.out; unfold wrap64; omega⟩, HE, ⟨by repeat (first | exact HV.out | apply RW.drewN)⟩, ⟨by repeat (first | exact HB.out | apply pw_below_drewN)⟩, ⟨by repeat (first | exact HKp.out | apply Kept.drewN)⟩, HO, ⟨by have := HLn.out; omega⟩, HNN0⟩
end Go.Proofs.YtmpngedfnheilaaDoor.PP
