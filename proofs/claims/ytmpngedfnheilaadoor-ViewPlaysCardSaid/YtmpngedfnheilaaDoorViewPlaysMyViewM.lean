/- MyViewX, MyViewM (mergeall.py). -/
import Derived.Test.YtmpngedfnheilaaDoorViewPlaysMyViewT
import Derived.Test.YtmpngedfnheilaaDoorViewPlaysMyViewV
import Derived.Test.YtmpngedfnheilaaDoorViewPlaysMyViewQ
namespace Go.Proofs.YtmpngedfnheilaaDoor.PP
open Go.RowKit Go.Proofs.YtmpngedfnheilaaDoorW.PrintWords Go.Proofs.YtmpngedfnheilaaDoorW.PrintLast Go.Proofs.YtmpngedfnheilaaDoorW.PrintMore
open Go.Proofs.YtmpngedfnheilaaDoor.My
set_option linter.unusedVariables false
set_option linter.unusedSimpArgs false
/-- What a call makes of a view. -/
structure DoR (a : Al) (l : List Pl) (top : Int) (l' : List Pl) (top' : Int) (out : List Tl) : Prop where
  sync : a.f0 = 0 ∨ a.f0 = 1 → syncL FL (decide (a.f0 = 1)) (risL a.f1 0) l top = ((l', top'), out)
  note : a.f0 = 2 → out = [] ∧ top' = top ∧ ∃ n, IsPlace l a.f2 n ∧ l' = if n = 0 then l else l.set (n - 1) ⟨a.f2, FL a.f3⟩
  none : ¬ a.f0 = 0 → ¬ a.f0 = 1 → ¬ a.f0 = 2 → out = [] ∧ top' = top ∧ l' = l
abbrev acs (a : Al) (A1 : Option Addr) (c1 : Nat) (A3 : Option Addr) (c3 : Nat) : List Value := [.int .i64 a.f0, .slice A1 a.f1.length c1, .int .i64 a.f2, .slice A3 a.f3.length c3]
set_option maxHeartbeats 8000000 in
set_option maxRecDepth 100000 in
theorem do_ok (kf N0 g : Nat) (v : Value) (l : List Pl) (top : Int) (a : Al) (P : Nat → Prop) (A1 : Option Addr) (c1 : Nat) (A3 : Option Addr) (c3 : Nat) (w : World) (h : VW N0 w g v l top) (hr : Ris l top)
    (hF : Kd.F k43 w P A1 a.f1.length a.f1) (hP : ∀ k, P k → k < w.heap.size → ¬ VS g v k) (hK : ∀ m ∈ a.f1, search_Flags.f kf m.f1 = some (FL m.f1)) (hC : Kd.C Kd.string w A3 a.f3.length a.f3) (hc : a.f3.length ≤ c3) (hK3 : search_Flags.f kf a.f3 = some (FL a.f3)) (hl : l.length + a.f1.length ≤ 1000000) :
    Calls Tryd.prog 15 #[.pointer (some ⟨g, 0, none⟩), .agg (acs a A1 c1 A3 c3).toArray] w fun e w' => ∃ (v' vo : Value) (l' : List Pl) (top' : Int) (out : List Tl), e = .returned vo ∧ DoR a l top l' top' out ∧ TRow w' w.heap.size vo out ∧ VW N0 w' g v' l' top' ∧ Below N0 w w' ∧ Chg TV w w' := by
  have HV := Aside0.mk h
  have HR := Aside0.mk hr
  have HF := Aside0.mk (Kd.F_bound hF)
  have HP := Aside0.mk hP
  have HK := Aside0.mk hK
  have HC := Aside0.mk hC
  have HCC := Aside0.mk hc
  have HK3 := Aside0.mk hK3
  have HL := Aside0.mk hl
  clear h hr hF hP hK hC hc hK3 hl
  go_enter Tryd.func15, Tryd.ntmps15
  go_upto_region 1 with fail
  obtain ⟨W1, hW1⟩ : ∃ W1, W1 = w.alloc (.cells (acs a A1 c1 A3 c3).toArray 33) := ⟨_, rfl⟩
  rw [← hW1]
  have hblk : W1.heap[w.heap.size]? = some (.cells (acs a A1 c1 A3 c3).toArray 33 (0, 0)) := by rw [hW1]; exact blk_new _ _
  have hb1 : Below w.heap.size w W1 := by rw [hW1]; exact below_alloc (Below.refl _ _) _
  have h0 := (blk_cell hblk 0).trans (show _ = some (Value.int .i64 a.f0) from rfl)
  have h1 := (blk_cell hblk 1).trans (show _ = some (Value.slice A1 a.f1.length c1) from rfl)
  have h2 := (blk_cell hblk 2).trans (show _ = some (Value.int .i64 a.f2) from rfl)
  have h3 := (blk_cell hblk 3).trans (show _ = some (Value.slice A3 a.f3.length c3) from rfl)
  have HV1 := Aside0.mk (HV.out.below hb1)
  have HB1 := Aside0.mk (show Below N0 w W1 ∧ w.heap.size ≤ W1.heap.size from ⟨hb1.mono (by have := HV.out.lt; have := HV.out.ge; omega), hb1.size⟩)
  have HH1 := Aside0.mk (Chg.of_below (T := TV) hb1)
  have HF1 := Aside0.mk (Kd.F_below HF.out hb1)
  have HC1 := Aside0.mk (Kd.C_below HC.out hb1)
  have HPP := Aside0.mk (fun (k : Nat) (hk : P k ∧ k < w.heap.size) (_ : k < W1.heap.size) => HP.out k hk.1 hk.2)
  clear hW1 hblk hb1
  have HAB : ∃ aB, aB = w.heap.size := ⟨_, rfl⟩
  obtain ⟨aB, haB⟩ := HAB
  have HAB := Aside0.mk haB
  rw [← haB] at h0 h1 h2 h3 HB1 HF1 HPP ⊢
  clear haB
  have hsync : ∀ q : Bool, (a.f0 = 0 ∨ a.f0 = 1) → q = decide (a.f0 = 1) → ∀ W, W = W1 → Calls Tryd.prog 17 #[.pointer (some ⟨g, 0, none⟩), .bool q, .slice A1 a.f1.length c1] W fun e w' => ∃ (v' vo : Value) (l' : List Pl) (top' : Int) (out : List Tl), e = .returned vo ∧ DoR a l top l' top' out ∧ TRow w' aB vo out ∧ VW N0 w' g v' l' top' ∧ Below N0 w w' ∧ Chg TV w w' := by
    rintro q hq rfl W rfl
    refine (viewSync_ok FL kf N0 g v l top (decide (a.f0 = 1)) _ A1 c1 a.f1 W HV1.out HR.out HF1.out HPP.out HK.out HL.out).mono ?_
    rintro e w' ⟨v', vo, rfl, ho, hv, hb, hc⟩
    exact ⟨v', vo, _, _, _, rfl, ⟨fun _ => rfl, fun h2 => absurd h2 (by omega), fun h0 h1 => absurd hq (by omega)⟩, ho.lower HB1.out.2, hv, HB1.out.1.trans hb, HH1.out.trans hc⟩
  have HSY := Aside0.mk hsync
  clear hsync
  by_cases c0 : a.f0 = 0
  · have e0 : (a.f0 == 0) = true := beq_iff_eq.mpr c0
    have e1 : (a.f0 == 1) = false := beq_eq_false_iff_ne.mpr (by omega)
    have hs := HSY.out false (.inl c0) (decide_eq_false (by omega)).symm _ rfl
    have HS := Aside0.mk hs
    clear hs c0
    go_wp2_with fail
    refine HS.out.mono ?_
    rintro e w2 ⟨v', vo, l', top', out, rfl, hd⟩
    have HD := Aside0.mk hd
    clear hd
    go_wp2_with fail
    go_ret
    exact ⟨v', vo, l', top', out, rfl, by have := HD.out; rwa [HAB.out] at this⟩
  by_cases c1' : a.f0 = 1
  · have e0 : (a.f0 == 0) = false := beq_eq_false_iff_ne.mpr (by omega)
    have e1 : (a.f0 == 1) = true := beq_iff_eq.mpr c1'
    have hs := HSY.out true (.inr c1') (decide_eq_true c1').symm _ rfl
    have HS := Aside0.mk hs
    clear hs c0 c1'
    go_wp2_with fail
    refine HS.out.mono ?_
    rintro e w2 ⟨v', vo, l', top', out, rfl, hd⟩
    have HD := Aside0.mk hd
    clear hd
    go_wp2_with fail
    go_ret
    exact ⟨v', vo, l', top', out, rfl, by have := HD.out; rwa [HAB.out] at this⟩
  have e0 : (a.f0 == 0) = false := beq_eq_false_iff_ne.mpr c0
  have e1 : (a.f0 == 1) = false := beq_eq_false_iff_ne.mpr c1'
  by_cases c2 : a.f0 = 2
  · have e2 : (a.f0 == 2) = true := beq_iff_eq.mpr c2
    have C2 := Aside0.mk c2
    clear c0 c1' c2 HSY
    go_wp2_with fail
    refine (viewNote_ok FL kf N0 g v l top a.f2 A3 c3 a.f3 _ HV1.out HR.out HC1.out HCC.out HK3.out).mono ?_
    rintro e w2 ⟨rfl, n, hn, hv, hb, hk⟩
    have HN := Aside0.mk hn
    have HV2 := Aside0.mk hv
    have HB2 := Aside0.mk (HB1.out.1.trans hb)
    have HH2 := Aside0.mk (HH1.out.trans (HV1.out.chg hk))
    clear hn hv hb hk
    go_wp2_with fail
    go_ret
    exact ⟨v, _, _, top, [], rfl, ⟨fun h => by have := C2.out; omega, fun _ => ⟨rfl, rfl, n, HN.out, rfl⟩, fun _ _ h => absurd C2.out h⟩, TN.nil _ _ _ _, HV2.out, HB2.out, HH2.out⟩
  · have e2 : (a.f0 == 2) = false := beq_eq_false_iff_ne.mpr c2
    have C2 := Aside0.mk (show ¬ a.f0 = 0 ∧ ¬ a.f0 = 1 ∧ ¬ a.f0 = 2 from ⟨c0, c1', c2⟩)
    clear c0 c1' c2 HSY
    go_wp2_with fail
    go_ret
    exact ⟨v, _, l, top, [], rfl, ⟨fun h => by have := C2.out; omega, fun h => absurd h C2.out.2.2, fun _ _ _ => ⟨rfl, rfl, rfl⟩⟩, TN.nil _ _ _ _, HV1.out, HB1.out.1, HH1.out⟩
end Go.Proofs.YtmpngedfnheilaaDoor.PP

namespace Go.Proofs.YtmpngedfnheilaaDoor.PP
open Go.RowKit Go.Proofs.YtmpngedfnheilaaDoorW.PrintWords Go.Proofs.YtmpngedfnheilaaDoorW.PrintLast Go.Proofs.YtmpngedfnheilaaDoorW.PrintMore
open Go.Proofs.YtmpngedfnheilaaDoor.My
set_option linter.unusedVariables false
set_option linter.unusedSimpArgs false
/-- A row of whole numbers of the call's own. -/
abbrev IRow (w : World) (base : Nat) (v : Value) (l : List Int) : Prop := Kd.R (Kd.int .i64) 3 w base (fun _ => True) v l
theorem IRow.spare {W : World} {N0 r n cap : Nat} {l : List Int} (h : IRow W N0 (.slice (some ⟨r, 0, none⟩) n cap) l) (q : Nat) (hq : n ≤ q) (u : Value) : IRow (W.setCell ⟨r, q, none⟩ u) N0 (.slice (some ⟨r, 0, none⟩) n cap) l := by
  have hnn : n = l.length := (Kd.R_reads' h).1
  obtain ⟨h0, inner, ⟨hl, ho⟩, hr⟩ := h
  refine ⟨fun _ _ => trivial, inner, ⟨hl, ?_⟩, hr⟩
  rcases ho with ⟨ho, _⟩ | ⟨g, cap', cur, e, hb, hh, h1, h2, h3, h4⟩
  · cases ho
  · injection e with e1 _ e3
    injection e1 with e1
    injection e1 with e1
    subst e1
    subst e3
    refine .inr ⟨r, cap, cur.setIfInBounds q u, by rw [← hnn], hb, blk_set hh q u, h1, h2, by simpa using h3, ?_⟩
    rw [← h4]
    apply List.ext_getElem?
    intro j
    simp only [List.getElem?_take]
    split
    · rename_i hj
      have : q ≠ j := by
        have h5 : l.length * (Kd.int .i64).sz = n * 1 := by rw [← hnn]; rfl
        omega
      rw [Array.getElem?_toList, Array.getElem?_toList, Array.getElem?_setIfInBounds_ne this]
    · rfl
theorem IRow.cellAt {W : World} {N0 r n cap : Nat} {l : List Int} (h : IRow W N0 (.slice (some ⟨r, 0, none⟩) n cap) l) (q : Nat) (hq : q < cap) : (W.cell? ⟨r, q, none⟩).isSome = true ∧ W.frozen? ⟨r, q, none⟩ = false := by
  obtain ⟨h0, inner, ⟨hl, ho⟩, hr⟩ := h
  rcases ho with ⟨ho, _⟩ | ⟨g, cap', cur, e, hb, hh, h1, h2, h3, h4⟩
  · cases ho
  · injection e with e1 _ e3
    injection e1 with e1
    injection e1 with e1
    subst e1
    subst e3
    have h3' : cur.size = cap * 1 := h3
    exact ⟨by rw [blk_cell hh]; simp [h3', hq], blk_frozen hh q⟩
theorem zero_int (w : World) : (zeroValue 3).run Tryd.prog w = .ok (.int .i64 0) w := by kernel_rfl
theorem clear1i (W : World) (r q c : Nat) (h0 : (W.cell? ⟨r, q, none⟩).isSome = true) (f0 : W.frozen? ⟨r, q, none⟩ = false) :
    (Builtin.clear_ #[34] 0 #[.slice (some ⟨r, q, none⟩) 1 c]).run Tryd.prog W = .ok (.tuple #[]) (W.setCell ⟨r, q, none⟩ (.int .i64 0)) := by
  refine (Lib.run_clear_slice W 34 3 0 (.int .i64 0) Tryd.underlying34 zero_int rfl rfl r q 1 c (by omega) (fun j hj => ?_) (fun j hj => ?_)).trans rfl
  · obtain rfl : j = 0 := by omega
    exact h0
  · obtain rfl : j = 0 := by omega
    exact f0
set_option maxHeartbeats 4000000 in
set_option maxRecDepth 100000 in
theorem intClone_ok (A0 : Option Addr) (c0 : Nat) (l : List Int) (w : World) (h : Kd.C (Kd.int .i64) w A0 l.length l) (hl : l.length ≤ 1000000000) :
    Calls Tryd.prog 51 #[.slice A0 l.length c0] w fun e w' => ∃ v' : Value, e = .returned v' ∧ IRow w' w.heap.size v' l ∧ Below w.heap.size w w' := by
  have hq : ∀ (W : World) (a : Option Addr) (n c n' c' : Nat), (binOp .eql 34 (.slice a n c) (.slice none n' c')).run Tryd.prog W = .ok (.bool a.isNone) W := fun W a n c n' c' => Lib.run_eql_slice_nil W _ _ a n c n' c' Tryd.underlying34
  have HR := Aside0.mk h
  have HL := Aside0.mk hl
  clear hl
  go_enter Tryd.func51, Tryd.ntmps51
  cases A0 with
  | none =>
    have hz : l = [] := by
      cases l with
      | nil => rfl
      | cons x y =>
        obtain ⟨ad, e, _⟩ := h.2.2 (by simp)
        cases e
    subst hz
    clear h
    go_wp2_with fail
    go_ret
    exact ⟨_, rfl, Kd.R_nil _ _ _ _ _, Below.refl _ _⟩
  | some ad =>
    clear h
    have HB := Aside0.mk (Below.refl w.heap.size w)
    go_wp2_with (first | ((with_reducible refine gate_dst (N := 5) rfl ?_); (try (refine gate_guard (by rfl) ?_; dsimp only)); refine Kd.R_lit (Kd.int .i64) _ 3 ?hg (N := 5) ?hd (xs := ([] : List Int)) (inner := []) (ok := fun _ => True) (okp := fun _ => True) ?hr ?hp (fun _ hk => hk) trivial (Below.refl _ _) (Nat.le_refl _) (by simp) ?_; (case hd => rfl); (case hg => rfl); (case hr => first | (go_simp; done) | (go_simp; rfl)); (case hp => exact (Reps.none _ _)); intro v5 w1 ho hb hg_ hnew_; clear hg_ hnew_; have HO := Aside0.mk (Kd.R_lower ho (below_size HB.out)); have HB1 := Aside0.mk (below_step HB.out hb); clear hb ho) | ((with_reducible refine gate_builtin (b := .append) (xs := #[.tmp 5, .tmp 6]) rfl ?_); (try (refine gate_guard (by rfl) ?_; dsimp only)); at_builtin; refine Kd.R_append_rows (Kd.int .i64) (w0 := w) w.heap.size rfl (.tmp 5) (.tmp 6) 34 3 (.int .i64 0) 8 rfl Tryd.underlying34 info3 rfl (by decide) (by omega) v5 [] l _ _ _ (fun _ => True) (fun _ => False) rfl rfl ?aO ?aR (fun _ _ h => h) (fun _ h => h.elim) ?aF ?aB ?aS ?aL ?_; (case aR => exact Kd.C_below HR.out HB1.out); (case aB => exact HB1.out); (case aF => exact (fun _ _ => trivial)); (case aO => exact HO.out); (case aS => exact HB1.out.size); (case aL => have := HL.out; simp; omega); intro v7 w2 ho hb hg hat; have HO7 := Aside0.mk ho; have HB7 := Aside0.mk hb; clear ho hb hg hat))
    go_ret
    exact ⟨_, rfl, HO7.out, HB7.out⟩
set_option maxHeartbeats 4000000 in
set_option maxRecDepth 100000 in
theorem intDelete_ok (N0 r c0 : Nat) (l : List Int) (i : Nat) (w : World) (h : IRow w N0 (.slice (some ⟨r, 0, none⟩) l.length c0) l) (hl : l.length ≤ 1000000000) (hi : i < l.length) :
    Calls Tryd.prog 52 #[.slice (some ⟨r, 0, none⟩) l.length c0, .int .i64 i, .int .i64 ((i : Int) + 1)] w fun e w' => e = .returned (.slice (some ⟨r, 0, none⟩) (l.length - 1) c0) ∧ IRow w' N0 (.slice (some ⟨r, 0, none⟩) (l.length - 1) c0) (l.eraseIdx i) ∧ Below N0 w w' := by
  have HP := Aside0.mk h
  have HL := Aside0.mk hl
  obtain ⟨_, hc, _⟩ := Kd.R_reads' h
  have q1 : (i : Int) ≤ (i : Int) + 1 := by omega
  have q2 : (i : Int) + 1 ≤ (l.length : Int) := by omega
  have q4 := eq_true (show (0 : Int) ≤ (i : Int) + 1 by omega)
  have q5 := eq_true q2
  have q6 := eq_true (show i ≤ c0 by omega)
  have q7 := eq_true (show l.length - 1 ≤ l.length by omega)
  have q8 := eq_true hc
  have q9 : l.length - (l.length - 1) = 1 := by omega
  have q3 : ((i : Int) == (i : Int) + 1) = false := beq_eq_false_iff_ne.mpr (by omega)
  go_enter Tryd.func52, Tryd.ntmps52
  have hge := Kd.R_base h r rfl
  have hlt := (Kd.own_of_R h)
  have HI := Aside0.mk hi
  have HN := Aside0.mk (show N0 ≤ w.heap.size by
    obtain ⟨c, hb⟩ := Kd.R_typed h r rfl
    have := (Array.getElem?_eq_some_iff.1 hb).1
    omega)
  have HGE := Aside0.mk hge
  have HCC := Aside0.mk hc
  clear hlt
  by_cases hcap : c0 = i + 1
  · subst hcap
    go_wp2_with fail
    go_region_law (first | (refine Kd.R_delete_step (Kd.int .i64) (w0 := w) N0 (by rfl) (.tmp 22) (.tmp 25) 34 3 rfl Tryd.underlying34 (by kernel_rfl) (n := l.length) (k := i) (xs := l) (c := i + 1) (ok := fun _ => True) rfl rfl ?dA ?dm ?dO HI.out ?dB ?dN ?_; (case dA => simp); (case dm => have := HCC.out; have := HI.out; omega); (case dO => exact HP.out); (case dB => exact (by repeat (first | exact Below.refl _ _ | apply pw_below_drewN | apply below_drew1))); (case dN => exact HN.out); intro w8 h8 hb8 hg8))
    have hcl := fun (c : Nat) => clear1i w8 r (l.length - 1) c (IRow.cellAt h8 _ (by have := HCC.out; have := HI.out; omega)).1 (IRow.cellAt h8 _ (by have := HCC.out; have := HI.out; omega)).2
    have H8 := Aside0.mk (IRow.spare h8 (l.length - 1) (Nat.le_refl _) (.int .i64 0))
    have HB8 := Aside0.mk (hb8.setCell (p := ⟨r, l.length - 1, none⟩) HGE.out (.int .i64 0))
    clear h8 hb8 hg8
    go_wp2_with fail
    go_ret
    exact ⟨rfl, H8.out, HB8.out⟩
  · have hcapb := eq_false hcap
    go_wp2_with fail
    go_region_law (first | (refine Kd.R_delete_step (Kd.int .i64) (w0 := w) N0 (by rfl) (.tmp 22) (.tmp 25) 34 3 rfl Tryd.underlying34 (by kernel_rfl) (n := l.length) (k := i) (xs := l) (c := c0) (ok := fun _ => True) rfl rfl ?dA ?dm ?dO HI.out ?dB ?dN ?_; (case dA => (rw [if_neg hcap, Option.map_some, addr0]; simp [Kd.int]; exact (Nat.mul_one _).symm)); (case dm => have := HCC.out; have := HI.out; omega); (case dO => exact HP.out); (case dB => exact (by repeat (first | exact Below.refl _ _ | apply pw_below_drewN | apply below_drew1))); (case dN => exact HN.out); intro w8 h8 hb8 hg8))
    have hcl := fun (c : Nat) => clear1i w8 r (l.length - 1) c (IRow.cellAt h8 _ (by have := HCC.out; have := HI.out; omega)).1 (IRow.cellAt h8 _ (by have := HCC.out; have := HI.out; omega)).2
    have H8 := Aside0.mk (IRow.spare h8 (l.length - 1) (Nat.le_refl _) (.int .i64 0))
    have HB8 := Aside0.mk (hb8.setCell (p := ⟨r, l.length - 1, none⟩) HGE.out (.int .i64 0))
    clear h8 hb8 hg8
    go_wp2_with fail
    go_ret
    exact ⟨rfl, H8.out, HB8.out⟩
end Go.Proofs.YtmpngedfnheilaaDoor.PP
