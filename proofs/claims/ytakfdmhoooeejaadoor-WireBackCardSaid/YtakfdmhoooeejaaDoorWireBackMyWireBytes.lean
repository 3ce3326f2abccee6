/- YtakfdmhoooeejaaDoorMyWireBytes, as far as WireBack needs it (prune.py). -/
import Derived.Test.YtakfdmhoooeejaaDoorWireBackMyWireO
import Derived.Test.YtakfdmhoooeejaaDoorWireBackMyWireJ
import Derived.Test.YtakfdmhoooeejaaDoorWireBackKindsPP
namespace Go.Proofs.YtakfdmhoooeejaaDoor.PP
open Go.RowKit Go.Proofs.YtakfdmhoooeejaaDoorW.PrintWords Go.Proofs.YtakfdmhoooeejaaDoorW.PrintLast Go.Proofs.YtakfdmhoooeejaaDoorW.PrintMore
open Go.Proofs.YtakfdmhoooeejaaDoor.My
set_option linter.unusedVariables false
set_option linter.unusedSimpArgs false
theorem str_eqs (x : ByteArray) : (x.toList == x.toList) = true := by simp
theorem onto {n : Nat} {a b c : World} (h : Below n a b) (k : Below b.heap.size b c) (hn : n ≤ a.heap.size) : Below n a c := h.trans (k.mono (Nat.le_trans hn h.size))
set_option maxHeartbeats 8000000 in
set_option maxRecDepth 100000 in
theorem haversacklaw13_WireBytes.holds (cs0 : Array Value) (x0 : S37) (w : World) (hk0 : k37.K w x0 cs0.toList) (wx0 : Q37 x0) (hT : Tabs w) :
    Calls Tryd.prog 6 #[.agg cs0] w fun e w' => e = .returned (.bool true) ∧ Below w.heap.size w w' := by
  obtain ⟨A0, c0, A1, c1, hcs, hc0, hr0, hc1, hr1⟩ := k37_open hk0
  obtain rfl : cs0 = #[.slice A0 x0.f0.length c0, .slice A1 x0.f1.length c1] := by rw [← Array.toArray_toList (xs := cs0), hcs]
  obtain ⟨ts, ls⟩ := x0
  dsimp only at hc0 hr0 hc1 hr1 ⊢
  obtain ⟨fw, hfe, hfp⟩ := few_ev ts ls
  obtain ⟨kf, hkf⟩ := hfe.ex
  have HKF := Aside0.mk hkf
  have HFP := Aside0.mk hfp
  have HR0 := Aside0.mk (And.intro hr0 hc0)
  have HR1 := Aside0.mk (And.intro hr1 hc1)
  have HT := Aside0.mk hT
  clear hk0 wx0 hcs hfe hkf hfp hr0 hc0 hr1 hc1 hT
  go_enter Tryd.func6, Tryd.ntmps6
  go_wp2_with fail
  obtain ⟨g, hg⟩ : ∃ g, g = w.heap.size := ⟨_, rfl⟩
  have hW0 : (w.alloc (.cells #[.slice A0 ts.length c0, .slice A1 ls.length c1] 37)).heap[g]? = some (.cells #[.slice A0 ts.length c0, .slice A1 ls.length c1] 37 (0, 0)) := by rw [hg]; exact blk_new _ _
  have hB0 : Below w.heap.size w (w.alloc (.cells #[.slice A0 ts.length c0, .slice A1 ls.length c1] 37)) := below_alloc (Below.refl _ _) _
  rw [← hg]
  generalize (w.alloc (.cells #[.slice A0 ts.length c0, .slice A1 ls.length c1] 37)) = w1 at hW0 hB0 ⊢
  have HG := Aside0.mk hg
  have HB1 := Aside0.mk hB0
  have HC1 := Aside0.mk hW0
  clear hg hB0 hW0
  refine (haversacklaw13_few.calls kf A0 c0 ts A1 c1 ls fw _ (Kd.C_below HR0.out.1 HB1.out) HR0.out.2 (Kd.C_below HR1.out.1 HB1.out) HR1.out.2 HKF.out).mono ?_
  rintro e w2 ⟨rfl, hb2⟩
  have HC2 := Aside0.mk ((hb2.block g (Array.getElem?_eq_some_iff.1 HC1.out).1).trans HC1.out)
  have HB2 := Aside0.mk (HB1.out.trans (hb2.mono HB1.out.size))
  clear hb2
  cases fw with
  | false =>
    go_wp2_with fail
    refine (alive_ok _).mono ?_
    rintro e w3 ⟨rfl, hb⟩
    have HB := Aside0.mk (HB2.out.trans (hb.mono HB2.out.size))
    clear hb
    go_wp2_with fail
    go_ret
    exact ⟨rfl, HB.out⟩
  | true =>
    obtain ⟨hl1, hl2, hl3⟩ := HFP.out rfl
    obtain ⟨kb, hkb⟩ := (bytes_ev ts ls hl1 hl2 hl3).ex
    have HKB := Aside0.mk hkb
    have HLS := Aside0.mk (And.intro hl1 (And.intro hl2 hl3))
    clear hkb hl1 hl2 hl3
    obtain ⟨bs, hbs⟩ : ∃ b, b = str (bytesS ts ls) := ⟨_, rfl⟩
    have HBS := Aside0.mk hbs
    rw [← hbs] at HKB
    have heq := str_eqs bs
    clear hbs
    have hS := fun (W : World) (hb : Below w2.heap.size w2 W) => (by
      have h := (hb.block g (Array.getElem?_eq_some_iff.1 HC2.out).1).trans HC2.out
      exact ⟨(blk_cell h 0).trans rfl, (blk_cell h 1).trans rfl, ⟨hb⟩⟩ : W.cell? ⟨g, 0, none⟩ = some (.slice A0 ts.length c0) ∧ W.cell? ⟨g, 1, none⟩ = some (.slice A1 ls.length c1) ∧ Aside0 (Below w2.heap.size w2 W))
    have HKS := Aside0.mk hS
    obtain ⟨k0, k1, _⟩ := hS w2 (Below.refl _ _)
    clear hS
    have HX := Aside0.mk (fun (W : World) (hb : Below w2.heap.size w2 W) => (⟨Kd.C_below HR0.out.1 (HB2.out.trans (hb.mono HB2.out.size)), Kd.C_below HR1.out.1 (HB2.out.trans (hb.mono HB2.out.size)), HT.out.below (HB2.out.trans (hb.mono HB2.out.size))⟩ : Kd.C Kd.string W A0 ts.length ts ∧ Kd.C Kd.string W A1 ls.length ls ∧ Tabs W))
    go_upto_region 3 with fail
    go_region_held3 (fun W => W.cell? ⟨g, 0, none⟩ = some (.slice A0 ts.length c0) ∧ W.cell? ⟨g, 1, none⟩ = some (.slice A1 ls.length c1) ∧ Aside0 (Below w2.heap.size w2 W)) (first | exact hHeld | (refine HKS.out _ ?_; first | (with_reducible assumption) | (with_reducible exact Below.refl _ _) | ((repeat (first | (with_reducible exact hHeld.2.2.out) | (with_reducible first | exact Below.refl _ _ | assumption | apply pw_below_drewN | apply below_drew1))); done))) (first | (go_at_call 17; refine (bytes_ok A0 c0 ts A1 c1 ls _ ?hA ?hB ?hC HLS.out.1 HLS.out.2.1 HLS.out.2.2).mono ?_; (case hA => refine (HX.out _ ?_).1; (with_reducible repeat (first | exact Below.refl _ _ | assumption | apply pw_below_drewN | apply below_drew1))); (case hB => refine (HX.out _ ?_).2.1; (with_reducible repeat (first | exact Below.refl _ _ | assumption | apply pw_below_drewN | apply below_drew1))); (case hC => refine (HX.out _ ?_).2.2; (with_reducible repeat (first | exact Below.refl _ _ | assumption | apply pw_below_drewN | apply below_drew1))); rintro e w3 ⟨rfl, hb3'⟩; have hb3 : Below w2.heap.size w2 w3 := (by refine onto ?_ hb3' (Nat.le_refl _); (with_reducible repeat (first | exact Below.refl _ _ | assumption | apply pw_below_drewN | apply below_drew1))); rw [← HBS.out]; clear hb3') | (go_at_call 18; refine (haversackref13_Bytes.calls kb A0 c0 ts A1 c1 ls bs _ ?hA HR0.out.2 ?hB HR1.out.2 HKB.out).mono ?_; (case hA => refine (HX.out _ ?_).1; (with_reducible repeat (first | exact Below.refl _ _ | assumption | apply pw_below_drewN | apply below_drew1))); (case hB => refine (HX.out _ ?_).2.1; (with_reducible repeat (first | exact Below.refl _ _ | assumption | apply pw_below_drewN | apply below_drew1))); rintro e w4 ⟨rfl, hb4'⟩; have hb4 : Below w2.heap.size w2 w4 := (by refine onto ?_ hb4' (Nat.le_refl _); (with_reducible repeat (first | exact Below.refl _ _ | assumption | apply pw_below_drewN | apply below_drew1))); clear hb4') | (go_at_call 9; refine (alive_ok _).mono ?_; rintro e w5 ⟨rfl, hb5'⟩; have hb5 : Below w2.heap.size w2 w5 := (by refine onto ?_ hb5' (Nat.le_refl _); (with_reducible repeat (first | exact Below.refl _ _ | assumption | apply pw_below_drewN | apply below_drew1))); clear hb5'))
    have HB5 := Aside0.mk (HB2.out.trans (hb5.mono HB2.out.size))
    clear hb3 hb4 hb5
    go_wp2_with fail
    go_ret
    exact ⟨rfl, HB5.out⟩
end Go.Proofs.YtakfdmhoooeejaaDoor.PP
