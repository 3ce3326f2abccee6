/- YtmpngedfnheilaaDoorMyViewX, as far as ViewWhole needs it (prune.py). -/
import Derived.Test.YtmpngedfnheilaaDoorViewWholeMyViewT
import Derived.Test.YtmpngedfnheilaaDoorViewWholeMyViewV
namespace Go.Proofs.YtmpngedfnheilaaDoor.PP
open Go.RowKit Go.Proofs.YtmpngedfnheilaaDoorW.PrintWords Go.Proofs.YtmpngedfnheilaaDoorW.PrintLast Go.Proofs.YtmpngedfnheilaaDoorW.PrintMore
open Go.Proofs.YtmpngedfnheilaaDoor.My
set_option linter.unusedVariables false
set_option linter.unusedSimpArgs false
/-- What a call makes of a view. -/
structure DoR (a : Al) (l : List Pl) (top : Int) (l' : List Pl) (top' : Int) (out : List Tl) : Prop where
  sync : a.f0 = 0 ∨ a.f0 = 1 → syncL FL (decide (a.f0 = 1)) (risL a.f1 0) l top = ((l', top'), out)
  note : a.f0 = 2 → out = [] ∧ top' = top ∧ ∃ n, IsPlace l a.f2 n ∧ l' = if n = 0 then l else l.set (n - 1) ⟨a.f2, FL a.f3⟩
  none : ¬ a.f0 = 0 → ¬ a.f0 = 1 → ¬ a.f0 = 2 → out = [] ∧ top' = top ∧ l' = l
abbrev acs (a : Al) (A1 : Option Addr) (c1 : Nat) (A3 : Option Addr) (c3 : Nat) : List Value := [.int .i64 a.f0, .slice A1 a.f1.length c1, .int .i64 a.f2, .slice A3 a.f3.length c3]
set_option maxHeartbeats 8000000 in
set_option maxRecDepth 100000 in
theorem do_ok (kf N0 g : Nat) (v : Value) (l : List Pl) (top : Int) (a : Al) (P : Nat → Prop) (A1 : Option Addr) (c1 : Nat) (A3 : Option Addr) (c3 : Nat) (w : World) (h : VW N0 w g v l top) (hr : Ris l top)
    (hF : Kd.F k43 w P A1 a.f1.length a.f1) (hP : ∀ k, P k → k < w.heap.size → ¬ VS g v k) (hK : ∀ m ∈ a.f1, search_Flags.f kf m.f1 = some (FL m.f1)) (hC : Kd.C Kd.string w A3 a.f3.length a.f3) (hc : a.f3.length ≤ c3) (hK3 : search_Flags.f kf a.f3 = some (FL a.f3)) (hl : l.length + a.f1.length ≤ 1000000) :
    Calls Tryd.prog 15 #[.pointer (some ⟨g, 0, none⟩), .agg (acs a A1 c1 A3 c3).toArray] w fun e w' => ∃ (v' vo : Value) (l' : List Pl) (top' : Int) (out : List Tl), e = .returned vo ∧ DoR a l top l' top' out ∧ TRow w' w.heap.size vo out ∧ VW N0 w' g v' l' top' ∧ Below N0 w w' ∧ Chg TV w w' := by
  have HV := Aside0.mk h
  have HR := Aside0.mk hr
  have HF := Aside0.mk (Kd.F_bound hF)
  have HP := Aside0.mk hP
  have HK := Aside0.mk hK
  have HC := Aside0.mk hC
  have HCC := Aside0.mk hc
  have HK3 := Aside0.mk hK3
  have HL := Aside0.mk hl
  clear h hr hF hP hK hC hc hK3 hl
  go_enter Tryd.func15, Tryd.ntmps15
  go_upto_region 1 with fail
  obtain ⟨W1, hW1⟩ : ∃ W1, W1 = w.alloc (.cells (acs a A1 c1 A3 c3).toArray 33) := ⟨_, rfl⟩
  rw [← hW1]
  have hblk : W1.heap[w.heap.size]? = some (.cells (acs a A1 c1 A3 c3).toArray 33 (0, 0)) := by rw [hW1]; exact blk_new _ _
  have hb1 : Below w.heap.size w W1 := by rw [hW1]; exact below_alloc (Below.refl _ _) _
  have h0 := (blk_cell hblk 0).trans (show _ = some (Value.int .i64 a.f0) from rfl)
  have h1 := (blk_cell hblk 1).trans (show _ = some (Value.slice A1 a.f1.length c1) from rfl)
  have h2 := (blk_cell hblk 2).trans (show _ = some (Value.int .i64 a.f2) from rfl)
  have h3 := (blk_cell hblk 3).trans (show _ = some (Value.slice A3 a.f3.length c3) from rfl)
  have HV1 := Aside0.mk (HV.out.below hb1)
  have HB1 := Aside0.mk (show Below N0 w W1 ∧ w.heap.size ≤ W1.heap.size from ⟨hb1.mono (by have := HV.out.lt; have := HV.out.ge; omega), hb1.size⟩)
  have HH1 := Aside0.mk (Chg.of_below (T := TV) hb1)
  have HF1 := Aside0.mk (Kd.F_below HF.out hb1)
  have HC1 := Aside0.mk (Kd.C_below HC.out hb1)
  have HPP := Aside0.mk (fun (k : Nat) (hk : P k ∧ k < w.heap.size) (_ : k < W1.heap.size) => HP.out k hk.1 hk.2)
  clear hW1 hblk hb1
  have HAB : ∃ aB, aB = w.heap.size := ⟨_, rfl⟩
  obtain ⟨aB, haB⟩ := HAB
  have HAB := Aside0.mk haB
  rw [← haB] at h0 h1 h2 h3 HB1 HF1 HPP ⊢
  clear haB
  have hsync : ∀ q : Bool, (a.f0 = 0 ∨ a.f0 = 1) → q = decide (a.f0 = 1) → ∀ W, W = W1 → Calls Tryd.prog 17 #[.pointer (some ⟨g, 0, none⟩), .bool q, .slice A1 a.f1.length c1] W fun e w' => ∃ (v' vo : Value) (l' : List Pl) (top' : Int) (out : List Tl), e = .returned vo ∧ DoR a l top l' top' out ∧ TRow w' aB vo out ∧ VW N0 w' g v' l' top' ∧ Below N0 w w' ∧ Chg TV w w' := by
    rintro q hq rfl W rfl
    refine (viewSync_ok FL kf N0 g v l top (decide (a.f0 = 1)) _ A1 c1 a.f1 W HV1.out HR.out HF1.out HPP.out HK.out HL.out).mono ?_
    rintro e w' ⟨v', vo, rfl, ho, hv, hb, hc⟩
    exact ⟨v', vo, _, _, _, rfl, ⟨fun _ => rfl, fun h2 => absurd h2 (by omega), fun h0 h1 => absurd hq (by omega)⟩, ho.lower HB1.out.2, hv, HB1.out.1.trans hb, HH1.out.trans hc⟩
  have HSY := Aside0.mk hsync
  clear hsync
  by_cases c0 : a.f0 = 0
  · have e0 : (a.f0 == 0) = true := beq_iff_eq.mpr c0
    have e1 : (a.f0 == 1) = false := beq_eq_false_iff_ne.mpr (by omega)
    have hs := HSY.out false (.inl c0) (decide_eq_false (by omega)).symm _ rfl
    have HS := Aside0.mk hs
    clear hs c0
    go_wp2_with fail
    refine HS.out.mono ?_
    rintro e w2 ⟨v', vo, l', top', out, rfl, hd⟩
    have HD := Aside0.mk hd
    clear hd
    go_wp2_with fail
    go_ret
    exact ⟨v', vo, l', top', out, rfl, by have := HD.out; rwa [HAB.out] at this⟩
  by_cases c1' : a.f0 = 1
  · have e0 : (a.f0 == 0) = false := beq_eq_false_iff_ne.mpr (by omega)
    have e1 : (a.f0 == 1) = true := beq_iff_eq.mpr c1'
    have hs := HSY.out true (.inr c1') (decide_eq_true c1').symm _ rfl
    have HS := Aside0.mk hs
    clear hs c0 c1'
    go_wp2_with fail
    refine HS.out.mono ?_
    rintro e w2 ⟨v', vo, l', top', out, rfl, hd⟩
    have HD := Aside0.mk hd
    clear hd
    go_wp2_with fail
    go_ret
    exact ⟨v', vo, l', top', out, rfl, by have := HD.out; rwa [HAB.out] at this⟩
  have e0 : (a.f0 == 0) = false := beq_eq_false_iff_ne.mpr c0
  have e1 : (a.f0 == 1) = false := beq_eq_false_iff_ne.mpr c1'
  by_cases c2 : a.f0 = 2
  · have e2 : (a.f0 == 2) = true := beq_iff_eq.mpr c2
    have C2 := Aside0.mk c2
    clear c0 c1' c2 HSY
    go_wp2_with fail
    refine (viewNote_ok FL kf N0 g v l top a.f2 A3 c3 a.f3 _ HV1.out HR.out HC1.out HCC.out HK3.out).mono ?_
    rintro e w2 ⟨rfl, n, hn, hv, hb, hk⟩
    have HN := Aside0.mk hn
    have HV2 := Aside0.mk hv
    have HB2 := Aside0.mk (HB1.out.1.trans hb)
    have HH2 := Aside0.mk (HH1.out.trans (HV1.out.chg hk))
    clear hn hv hb hk
    go_wp2_with fail
    go_ret
    exact ⟨v, _, _, top, [], rfl, ⟨fun h => by have := C2.out; omega, fun _ => ⟨rfl, rfl, n, HN.out, rfl⟩, fun _ _ h => absurd C2.out h⟩, TN.nil _ _ _ _, HV2.out, HB2.out, HH2.out⟩
  · have e2 : (a.f0 == 2) = false := beq_eq_false_iff_ne.mpr c2
    have C2 := Aside0.mk (show ¬ a.f0 = 0 ∧ ¬ a.f0 = 1 ∧ ¬ a.f0 = 2 from ⟨c0, c1', c2⟩)
    clear c0 c1' c2 HSY
    go_wp2_with fail
    go_ret
    exact ⟨v, _, l, top, [], rfl, ⟨fun h => by have := C2.out; omega, fun h => absurd h C2.out.2.2, fun _ _ _ => ⟨rfl, rfl, rfl⟩⟩, TN.nil _ _ _ _, HV1.out, HB1.out.1, HH1.out⟩
end Go.Proofs.YtmpngedfnheilaaDoor.PP
