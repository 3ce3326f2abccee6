/- MyRC, MyRD (mergeall.py). -/
import Derived.Test.YtmpngedfnheilaaDoorViewPlaysMyRB
import Derived.Test.YtmpngedfnheilaaDoorViewPlaysMyViewY
namespace Go.Proofs.YtmpngedfnheilaaDoor.PP
open Go.RowKit Go.Proofs.YtmpngedfnheilaaDoorW.PrintWords Go.Proofs.YtmpngedfnheilaaDoorW.PrintLast Go.Proofs.YtmpngedfnheilaaDoorW.PrintMore
open Go.Proofs.YtmpngedfnheilaaDoor.My
set_option linter.unusedVariables false
set_option linter.unusedSimpArgs false
theorem RW.lower {N0 N1 : Nat} {w : World} {g : Nat} {v : Value} {l : List Rp} {top : Int} (h : RW N1 w g v l top) (hn : N0 ≤ N1) : RW N0 w g v l top := ⟨h.blk, Nat.le_trans hn h.ge, Kd.N_lower h.row hn⟩
set_option maxHeartbeats 4000000 in
set_option maxRecDepth 100000 in
theorem refNew_ok (FL : List ByteArray → List ByteArray) (kf : Nat) (P : Nat → Prop) (A : Option Addr) (c : Nat) (l : List Ml) (w : World) (hF : Kd.F k43 w P A l.length l) (hlc : l.length ≤ c)
    (hK : ∀ m ∈ l, haversackref16_Flags.f kf m.f1 = some (FL m.f1)) (hl : l.length ≤ 1000000) :
    Calls Tryd.prog 19 #[.slice A l.length c] w fun e w' => ∃ (g : Nat) (v : Value), e = .returned (.pointer (some ⟨g, 0, none⟩)) ∧ RW w.heap.size w' g v (growR FL (risL l 0) [] 0).1 (growR FL (risL l 0) [] 0).2 ∧ Below w.heap.size w w' := by
  obtain ⟨kr, hkr⟩ := (Rising_ev l (by omega)).at
  have HKR := Aside0.mk hkr
  have HF := Aside0.mk hF
  have HLC := Aside0.mk hlc
  have HK := Aside0.mk hK
  have HL := Aside0.mk hl
  clear hF hK hl hkr hlc
  go_enter Tryd.func19, Tryd.ntmps19
  go_wp2_with fail
  obtain ⟨W1, hW1⟩ : ∃ W1, W1 = w.alloc (.cells #[.slice none 0 0, .int .i64 0] 80) := ⟨_, rfl⟩
  rw [← hW1]
  have hblk : W1.heap[w.heap.size]? = some (.cells #[.slice none 0 0, .int .i64 0] 80 (0, 0)) := by rw [hW1]; exact blk_new _ _
  have hb1 : Below w.heap.size w W1 := by rw [hW1]; exact below_alloc (Below.refl _ _) _
  have hf1 : Kd.F k43 W1 (fun k => P k ∧ k < w.heap.size) A l.length l := by rw [hW1]; exact Kd.F_alloc (Kd.F_bound HF.out) _
  have hs1 : W1.heap.size = w.heap.size + 1 := by rw [hW1]; exact sz_alloc
  have HB1 := Aside0.mk hb1
  have HS1 := Aside0.mk hs1
  have HBK := Aside0.mk hblk
  refine (haversackref18_Rising.calls kr (fun k => P k ∧ k < w.heap.size) A c l (risL l 0) W1 (Kd.V_mk HLC.out hf1) HKR.out).mono ?_
  rintro e w2 ⟨v0, rfl, hn, hb2⟩
  obtain ⟨A2, c2, e2⟩ := Kd.N_slice hn
  subst e2
  have HN := Aside0.mk hn
  have HB2 := Aside0.mk hb2
  clear hblk hb1 hf1 hs1 hW1 hn hb2
  go_wp2_with fail
  have hv2 : RW w.heap.size w2 w.heap.size (.slice none 0 0) [] 0 := ⟨(HB2.out.block _ (by have := HS1.out; omega)).trans HBK.out, Nat.le_refl _, Kd.N_nil _ _ _ _ _⟩
  refine (refGrow_ok FL kf w.heap.size w.heap.size (.slice none 0 0) [] 0 _ A2 c2 (risL l 0) w2 hv2 (Kd.N_F HN.out) (fun k hk hlt hs => ?_) (fun i hi => HK.out _ (risL_mem l 0 (rd_mem _ i hi))) (by have := HL.out; have := risL_len l 0; simp; omega)).mono ?_
  · have h1 := HS1.out
    rcases hs with rfl | hs
    · rcases hk with hk | hk
      · exact absurd hk.2 (by omega)
      · omega
    · simp [Value.ownBlock] at hs
  rintro e w3 ⟨v', rfl, hv3, hb3, hk3, ho3⟩
  have HV3 := Aside0.mk hv3
  have HB3 := Aside0.mk ((HB1.out.trans (HB2.out.mono (by have := HS1.out; omega))).trans hb3)
  clear hv3 hb3 hk3 ho3 hv2
  go_wp2_with fail
  go_ret
  exact ⟨_, _, rfl, HV3.out, HB3.out⟩
end Go.Proofs.YtmpngedfnheilaaDoor.PP

namespace Go.Proofs.YtmpngedfnheilaaDoor.PP
open Go.RowKit Go.Proofs.YtmpngedfnheilaaDoorW.PrintWords Go.Proofs.YtmpngedfnheilaaDoorW.PrintLast Go.Proofs.YtmpngedfnheilaaDoorW.PrintMore
open Go.Proofs.YtmpngedfnheilaaDoor.My
set_option linter.unusedVariables false
set_option linter.unusedSimpArgs false
set_option maxHeartbeats 4000000 in
set_option maxRecDepth 100000 in
theorem refUIDs_ok (N0 g : Nat) (v : Value) (l : List Rp) (top : Int) (w : World) (h : RW N0 w g v l top) (hl : l.length ≤ 1000000000) :
    Calls Tryd.prog 24 #[.pointer (some ⟨g, 0, none⟩)] w fun e w' => ∃ v0 : Value, e = .returned v0 ∧ Kd.R (Kd.int .i64) 3 w' w.heap.size (fun _ => True) v0 (l.map (·.f0)) ∧ Below w.heap.size w w' := by
  have HL := Aside0.mk hl
  have hc0 := h.cell0
  obtain ⟨A, c, rfl, hlc, hC⟩ := h.slice
  have HC := Aside0.mk hC
  clear hC h hl
  go_enter Tryd.func24, Tryd.ntmps24
  go_wp2_with fail
  go_loopg [3, 4] l.length (fun kq v3 v4 wr => ∃ (x : Int) (i : Nat), v4 = .int .i64 x ∧ Aside0 (x = i ∧ i + kq = l.length) ∧ Aside0 (Kd.R (Kd.int .i64) 3 wr w.heap.size (fun _ => True) v3 ((l.take i).map (·.f0))) ∧ Aside0 (Below w.heap.size w wr))
  case atStart => exact ⟨0, 0, rfl, ⟨rfl, by omega⟩, ⟨Kd.R_nil _ _ _ _ _⟩, ⟨Below.refl _ _⟩⟩
  case round =>
    obtain ⟨x, i, rfl, HX, HR, HW⟩ := hrel
    replace hc0 := (HW.out.cell (World.block_lt_of_cell? w _ hc0)).trans hc0
    cases gk with
    | zero =>
      have c1b : decide (x < (l.length : Int)) = false := decide_eq_false (by have := HX.out; omega)
      have HE : l.take i = l := List.take_of_length_le (by have := HX.out; omega)
      rw [HE] at HR
      clear HE
      go_wp2_with fail
      go_ret
      exact ⟨_, rfl, HR.out, HW.out⟩
    | succ k1 =>
      have q1 : x < (l.length : Int) := by have := HX.out; omega
      have q0 : 0 ≤ x := by have := HX.out; omega
      have c1b : decide (x < (l.length : Int)) = true := decide_eq_true q1
      obtain ⟨ad, A1, c1, rfl, hx0, hx1, hl1, hi1⟩ := at_T84 HC.out x q0 q1
      replace hx0 := (HW.out.cell (World.block_lt_of_cell? w _ hx0)).trans hx0
      replace hx1 := (HW.out.cell (World.block_lt_of_cell? w _ hx1)).trans hx1
      have q0b := eq_true q0
      have q1b := eq_true q1
      have HE : (l.take (i + 1)).map (·.f0) = (l.take i).map (·.f0) ++ [(rd_T84 l x).f0] := by
        have := HX.out
        rw [take_snoc l i z84 (by omega), List.map_append]
        unfold rd_T84
        rw [show x.toNat = i by omega]
        rfl
      have HLE := Aside0.mk HE
      have hi := Aside0.mk (show (i : Int) = x ∧ i < l.length by have := HX.out; omega)
      clear hi1 hl1 HE q0 q1
      obtain ⟨Ao, co, eo⟩ := Kd.R_slice HR.out
      subst eo
      have HLT := Aside0.mk (show ((l.take i).map (·.f0)).length < 17592186044416 by have := HL.out; simp; omega)
      generalize (l.take i).map (·.f0) = acc at HR HLE HLT ⊢
      go_wp2_with (first | ((with_reducible refine gate_builtin (b := .append) (xs := #[.tmp 14, .tmp 23]) rfl ?_); (try (refine gate_guard (by rfl) ?_; dsimp only)); at_builtin; refine Kd.R_append (Kd.int .i64) (w0 := w) w.heap.size rfl (.tmp 14) (.tmp 23) 34 3 (.int .i64 0) 8 rfl Tryd.underlying34 info3 rfl (by decide) (by omega) (.slice Ao acc.length co) acc ((rd_T84 l x).f0) [.int .i64 ((rd_T84 l x).f0)] (fun _ => True) (fun _ => False) rfl ?aX ?aP (fun _ hk => hk.elim) ?aF ?aO ?aB ?aS ?aL ?_; (case aX => exact rfl); (case aP => exact rfl); (case aB => exact (by repeat (first | (with_reducible first | exact HW.out | apply below_alloc | apply pw_below_drewN | apply below_drew1) | exact HW.out))); (case aF => exact (fun _ _ => trivial)); (case aO => exact (by (with_reducible repeat (first | apply Kd.R_alloc | apply Kd.R_drewN | apply Kd.R_drew)); exact HR.out)); (case aS => exact (below_size (by repeat (first | (with_reducible first | exact HW.out | apply below_alloc | apply pw_below_drewN | apply below_drew1) | exact HW.out)))); (case aL => have := HLT.out; omega); intro v30 w3 ho hb hg hat; have HR3 := Aside0.mk ho; have HW3 := Aside0.mk hb; clear ho hb hg hat))
      go_roundg k1
      case measure => omega
      case rel => exact ⟨wrap64 (x + 1), i + 1, rfl, ⟨by have := HX.out; have := HL.out; unfold wrap64; omega⟩, ⟨HLE.out ▸ HR3.out⟩, HW3⟩
/-- n is the place of a UID, the first; 0: there is none. -/
def IsPlaceR (l : List Rp) (uid : Int) (n : Nat) : Prop :=
  (1 ≤ n ∧ n ≤ l.length ∧ (rd_T84 l (n - 1 : Nat)).f0 = uid) ∨ (n = 0 ∧ ∀ i, i < l.length → (rd_T84 l i).f0 ≠ uid)
set_option maxHeartbeats 4000000 in
set_option maxRecDepth 100000 in
theorem refPlace_ok (N0 g : Nat) (v : Value) (l : List Rp) (top uid : Int) (w : World) (h : RW N0 w g v l top) (hl : l.length ≤ 1000000000) :
    Calls Tryd.prog 28 #[.pointer (some ⟨g, 0, none⟩), .int .i64 uid] w fun e w' => ∃ n : Nat, e = .returned (.int .i64 n) ∧ IsPlaceR l uid n ∧ Below w.heap.size w w' := by
  have HL := Aside0.mk hl
  have hc0 := h.cell0
  obtain ⟨A, c, rfl, hlc, hC⟩ := h.slice
  have HC := Aside0.mk hC
  clear hC h hl
  go_enter Tryd.func28, Tryd.ntmps28
  go_wp2_with fail
  go_loopg [5] l.length (fun kq v5 wr => ∃ (x : Int) (i : Nat), v5 = .int .i64 x ∧ Aside0 (x = i ∧ i + kq = l.length) ∧ Aside0 (∀ j : Nat, j < i → (rd_T84 l j).f0 ≠ uid) ∧ Aside0 (Below w.heap.size w wr))
  case atStart => exact ⟨0, 0, rfl, ⟨rfl, by omega⟩, ⟨fun j hj => absurd hj (by omega)⟩, ⟨Below.refl _ _⟩⟩
  case round =>
    obtain ⟨x, i, rfl, HX, HR, HW⟩ := hrel
    replace hc0 := (HW.out.cell (World.block_lt_of_cell? w _ hc0)).trans hc0
    cases gk with
    | zero =>
      have c1b : decide (x < (l.length : Int)) = false := decide_eq_false (by have := HX.out; omega)
      go_wp2_with fail
      go_ret
      exact ⟨0, rfl, .inr ⟨rfl, fun j hj => HR.out j (by have := HX.out; omega)⟩, HW.out⟩
    | succ k1 =>
      have q1 : x < (l.length : Int) := by have := HX.out; omega
      have q0 : 0 ≤ x := by have := HX.out; omega
      have c1b : decide (x < (l.length : Int)) = true := decide_eq_true q1
      obtain ⟨ad, A1, c1, rfl, hx0, hx1, hl1, hi1⟩ := at_T84 HC.out x q0 q1
      replace hx0 := (HW.out.cell (World.block_lt_of_cell? w _ hx0)).trans hx0
      have hi := Aside0.mk (show (i : Int) = x ∧ i < l.length by have := HX.out; omega)
      have hw1 : wrap64 (x + 1) = x + 1 := by have := HX.out; have := HL.out; unfold wrap64; omega
      have q0b := eq_true q0
      have q1b := eq_true q1
      clear hi1 hl1 q0 q1 hx1
      by_cases d : (rd_T84 l x).f0 = uid
      · have db : ((rd_T84 l x).f0 == uid) = true := beq_iff_eq.mpr d
        have HD := Aside0.mk d
        have HW1 := Aside0.mk hw1
        clear d hw1
        go_wp2_with fail
        go_ret
        refine ⟨i + 1, ?_, .inl ⟨by omega, hi.out.2, ?_⟩, HW.out⟩
        · have h1 := HW1.out
          have h2 := hi.out.1
          show Ending.returned (Value.int .i64 (wrap64 (x + 1))) = _
          rw [h1, ← h2]; rfl
        · rw [show ((i + 1 - 1 : Nat) : Int) = x by have := hi.out; omega]
          exact HD.out
      · have db : ((rd_T84 l x).f0 == uid) = false := beq_eq_false_iff_ne.mpr d
        have HD := Aside0.mk d
        have HW1 := Aside0.mk hw1
        clear d hw1
        go_wp2_with fail
        go_roundg k1
        case measure => omega
        case rel => exact ⟨wrap64 (x + 1), i + 1, rfl, ⟨by have := HX.out; have := HL.out; unfold wrap64; omega⟩, ⟨fun j hj => by
          by_cases e : j = i
          · subst e; rw [hi.out.1]; exact HD.out
          · exact HR.out j (by omega)⟩, ⟨HW.out⟩⟩
/-- A place's flags are set anew, in the row. -/
theorem RRow.setFlags {N0 base r n cap : Nat} {W : World} {l : List Rp} (h : RRow W N0 (.slice (some ⟨r, 0, none⟩) n cap) l) (i : Nat) (hi : i < l.length) {vf : Value} {fs : List ByteArray} (hf : Kd.R Kd.string 9 W base (fun _ => True) vf fs) :
    RRow (W.setCell ⟨r, i * 2 + 1, none⟩ vf) N0 (.slice (some ⟨r, 0, none⟩) n cap) (l.set i ⟨(rd_T84 l i).f0, fs⟩) ∧ W.grownBy (W.setCell ⟨r, i * 2 + 1, none⟩ vf) (some r) := by
  obtain ⟨hn, _, hC⟩ := Kd.N_reads' h
  obtain ⟨ad, A1, c1, e, hx0, hx1, _, _⟩ := at_T84 hC (i : Int) (by omega) (by omega)
  obtain rfl := (Option.some.inj e)
  rw [Int.toNat_natCast, addr0] at hx0 hx1
  have hne : ∀ k, T9 W k → k ≠ r := fun k hk e => h.ne9 hk (by rw [e]; simp [Value.ownBlock])
  obtain ⟨h1, h2⟩ := Kd.N_seg h (i : Int) (by omega) (by omega) (c := [.int .i64 (rd_T84 l i).f0, .slice A1 (rd_T84 l i).f1.length c1]) (seg := [vf]) (j := 1) (x' := ⟨(rd_T84 l i).f0, fs⟩) (okp := T9 W) rfl (fun j u hu => by
      rcases j with _ | _ | j
      · simp only [List.getElem?_cons_zero, Option.some.injEq] at hu
        rw [← hu]
        exact hx0
      · simp only [List.getElem?_cons_succ, List.getElem?_cons_zero, Option.some.injEq] at hu
        rw [← hu]
        exact hx1
      · simp at hu) (Nat.le_refl 2) (FK9r_mk hf) (fun k hk => ⟨.inl hk, hne k hk⟩)
  rw [Int.toNat_natCast] at h1 h2
  have hh : ∀ k, k ≠ r → (W.setCell ⟨r, i * 2 + 1, none⟩ vf).heap[k]? = W.heap[k]? := fun k hk => Below.heap_setCell W ⟨r, i * 2 + 1, none⟩ vf k hk
  exact ⟨Kd.N_mono h1 (fun k hk => hk.imp (fun ⟨c, hc⟩ => ⟨c, (hh k (hne k ⟨c, hc⟩)).trans hc⟩) id), h2⟩
set_option maxHeartbeats 8000000 in
set_option maxRecDepth 100000 in
theorem refNote_ok (FL : List ByteArray → List ByteArray) (kf N0 g : Nat) (v : Value) (l : List Rp) (top uid : Int) (A : Option Addr) (c : Nat) (fs : List ByteArray) (w : World) (h : RW N0 w g v l top) (hr : l.length ≤ 1000000)
    (hC : Kd.C Kd.string w A fs.length fs) (hc : fs.length ≤ c) (hK : haversackref16_Flags.f kf fs = some (FL fs)) :
    Calls Tryd.prog 21 #[.pointer (some ⟨g, 0, none⟩), .int .i64 uid, .slice A fs.length c] w fun e w' => e = .returned (.tuple #[]) ∧ ∃ n, IsPlaceR l uid n ∧ RW N0 w' g v (if n = 0 then l else l.set (n - 1) ⟨uid, FL fs⟩) top ∧ Below N0 w w' ∧ Kept w w' (VS g v) := by
  have HV := Aside0.mk h
  have HR := Aside0.mk hr
  have HC := Aside0.mk hC
  have HCC := Aside0.mk hc
  have HK := Aside0.mk hK
  clear h hr hC hc hK
  go_enter Tryd.func21, Tryd.ntmps21
  go_wp2_with fail
  refine (refPlace_ok N0 g v l top uid _ HV.out (by have := HR.out; omega)).mono ?_
  rintro e w1 ⟨n, rfl, hn, hb1⟩
  have hlt := HV.out.lt
  have hge := HV.out.ge
  have HV1 := Aside0.mk (HV.out.below hb1)
  have HC1 := Aside0.mk (Kd.C_below HC.out hb1)
  have HB1 := Aside0.mk (hb1.mono (show N0 ≤ w.heap.size by omega))
  have HK1 := Aside0.mk (Kept.of_below hb1 (VS g v))
  have HN := Aside0.mk hn
  clear hb1 hlt hge hn
  by_cases hz : n = 0
  · subst hz
    go_wp2_with fail
    go_end0
    refine ⟨rfl, 0, HN.out, ?_, HB1.out, HK1.out⟩
    rw [if_pos rfl]
    exact HV1.out
  · have hpos : (0 : Int) < (n : Int) := by omega
    have hposb : decide ((0 : Int) < (n : Int)) = true := decide_eq_true hpos
    have hposn := eq_true (show 0 < n by omega)
    obtain ⟨n1, n2, n3⟩ : 1 ≤ n ∧ n ≤ l.length ∧ (rd_T84 l (n - 1 : Nat)).f0 = uid := HN.out.elim id (fun h => absurd h.1 hz)
    obtain ⟨r, cap, rfl, hrb, hrl, cells, hrh⟩ := Kd.N_form HV1.out.row (by omega)
    obtain ⟨j, hj⟩ : ∃ j, wrap64 ((n : Int) - 1) = j := ⟨_, rfl⟩
    have hbig := HR.out
    have hj2 : (n : Int) - 1 = j := by rw [← hj]; unfold wrap64; omega
    have hjw : IntKind.i64.wrap ((n : Int) - 1) = j := (i64_w _).trans hj
    have p0 : 0 ≤ j := by omega
    have p1 : j < (l.length : Int) := by omega
    obtain ⟨ad, A1, c1, e, hx0, hx1, _, _⟩ := at_T84 (Kd.N_reads' HV1.out.row).2.2 j p0 p1
    have had := Aside0.mk (Option.some.inj e)
    have hc1 := HV1.out.cell0
    rw [had.out] at hc1
    have hfz : w1.frozen? ⟨(ad.add (j.toNat * 2)).block, (ad.add (j.toNat * 2)).off + 1, none⟩ = false := by rw [← had.out, addr0]; exact blk_frozen hrh _
    have hgr : g ≠ (ad.add (j.toNat * 2)).block := by
      rw [← had.out, addr0]
      rintro rfl
      have := Kd.N_ne HV1.out.row HV1.out.blk (by decide)
      exact this (by simp [Value.ownBlock])
    have HGR := Aside0.mk hgr
    have hxl := World.block_lt_of_cell? _ _ hx1
    have HXL := Aside0.mk hxl
    have HJ := Aside0.mk (show j.toNat = n - 1 ∧ n - 1 < l.length by omega)
    have HU := Aside0.mk n3
    have HX1 := Aside0.mk hx1
    have HFZ := Aside0.mk hfz
    replace p0 := eq_true p0
    replace p1 := eq_true p1
    have HNN := Aside0.mk (show N0 ≤ w1.heap.size by have := HV1.out.lt; have := HV1.out.ge; omega)
    clear n1 n2 n3 hx0 hj hj2 hbig hgr hxl e hpos hrl
    have HRB := Aside0.mk hrb
    clear hrb
    have AFT := Aside0.mk (fun (w7 : World) (hb : Below w1.heap.size w1 w7) => (by
      have hv := HV1.out.below hb
      refine ⟨had.out ▸ hv.cell0, (hb.cell HXL.out).trans HX1.out, ?_, fun u => ?_⟩
      · rw [← had.out, addr0]; exact blk_frozen ((hb.block r (blk_lt hrh)).trans hrh) _
      · refine (blk_cell ((Below.heap_setCell w7 ⟨(ad.add (j.toNat * 2)).block, (ad.add (j.toNat * 2)).off + 1, none⟩ u g HGR.out).trans hv.blk) 0).trans ?_
        rw [← had.out]; rfl : w7.cell? ⟨g, 0, none⟩ = some (.slice (some ad) l.length cap) ∧ w7.cell? ⟨(ad.add (j.toNat * 2)).block, (ad.add (j.toNat * 2)).off + 1, none⟩ = some (.slice A1 (rd_T84 l j).f1.length c1) ∧ w7.frozen? ⟨(ad.add (j.toNat * 2)).block, (ad.add (j.toNat * 2)).off + 1, none⟩ = false ∧ ∀ u, (w7.setCell ⟨(ad.add (j.toNat * 2)).block, (ad.add (j.toNat * 2)).off + 1, none⟩ u).cell? ⟨g, 0, none⟩ = some (.slice (some ad) l.length cap)))
    go_wp2_with fail
    go_region_held3 (fun W => W.cell? ⟨g, 0, none⟩ = some (.slice (some ad) l.length cap)) (first | exact hHeld | exact hc1 | exact hc7 | exact hcs _) (first | (go_at_call 45; refine (haversackref16_Flags.calls kf A c fs (FL fs) _ (by repeat (first | exact HC1.out | apply Kd.C_drewN | apply Kd.C_drew)) HCC.out HK.out).mono ?_; rintro e w7 ⟨vf, rfl, hr7, hb7⟩; have HRF := Aside0.mk hr7; obtain ⟨Af, cf, ef⟩ := Kd.R_slice HRF.out; subst ef; have hb8 : Below w1.heap.size w1 w7 := (by first | exact hb7 | exact Below.trans (by repeat (first | exact Below.refl _ _ | apply pw_below_drewN | apply below_drew1)) hb7); obtain ⟨hc7, hx7, hf7, hcs⟩ := AFT.out w7 hb8; have HB8 := Aside0.mk hb8; clear hr7 hb7 hb8))
    go_end0
    have hv7 := HV1.out.below HB8.out
    obtain ⟨hp1, hp2⟩ := RRow.setFlags hv7.rrow (n - 1) HJ.out.2 HRF.out
    rw [HU.out] at hp1
    refine ⟨rfl, n, HN.out, ?_, ?_, ?_⟩
    · rw [if_neg hz, ← had.out, addr0, HJ.out.1]
      refine ⟨(Below.heap_setCell w7 ⟨r, (n - 1) * 2 + 1, none⟩ _ g (by have := HGR.out; rwa [← had.out, addr0] at this)).trans hv7.blk, hv7.ge, hp1⟩
    · refine Below.setCell (HB1.out.trans (HB8.out.mono HNN.out)) ?_ _
      rw [← had.out, addr0]; exact HRB.out
    · refine (HK1.out.below HB8.out).setCell (.inl (.inr ?_)) _
      rw [← had.out, addr0]; rfl
end Go.Proofs.YtmpngedfnheilaaDoor.PP
