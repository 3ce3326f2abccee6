/- YtakfdmhoooeejaaDoorMyWireO, as far as WireBack needs it (prune.py). -/
import Derived.Test.YtakfdmhoooeejaaDoorWireBackMyWireI
import Derived.Test.YtakfdmhoooeejaaDoorWireBackMyWireN
import Derived.Test.YtakfdmhoooeejaaDoorWireBackMyTab10
namespace Go.Proofs.YtakfdmhoooeejaaDoor.PP
open Go.RowKit Go.Proofs.YtakfdmhoooeejaaDoorW.PrintWords Go.Proofs.YtakfdmhoooeejaaDoorW.PrintLast Go.Proofs.YtakfdmhoooeejaaDoorW.PrintMore
open Go.Proofs.YtakfdmhoooeejaaDoor.My
set_option linter.unusedVariables false
set_option linter.unusedSimpArgs false
theorem IsB_drew {b : Nat} {l : List UInt8} {w : World} (h : IsB b l w) : IsB b l w.drew := h
theorem IsB_drewN {b : Nat} {l : List UInt8} {w : World} {n : Nat} (h : IsB b l w) : IsB b l (w.drewN n) := h.later (pw_below_drewN (Below.refl _ _) _)
set_option maxHeartbeats 8000000 in
set_option maxRecDepth 100000 in
theorem bytes_ok (A0 : Option Addr) (c0 : Nat) (ts : List ByteArray) (A1 : Option Addr) (c1 : Nat) (ls : List ByteArray) (w : World) (hr0 : Kd.C Kd.string w A0 ts.length ts) (hr1 : Kd.C Kd.string w A1 ls.length ls) (hT : Tabs w) (ht : ts.length ≤ 40) (hl : ls.length ≤ 40) (hz : szs ts + szs ls ≤ 20000) :
    Calls Tryd.prog 17 #[.agg #[.slice A0 ts.length c0, .slice A1 ls.length c1]] w fun e w' => e = .returned (.string (str (bytesS ts ls))) ∧ Below w.heap.size w w' := by
  have HR0 := Aside0.mk hr0
  have HR1 := Aside0.mk hr1
  have HT := Aside0.mk hT
  have HL := Aside0.mk (And.intro ht hl)
  have HZ := Aside0.mk hz
  clear hr0 hr1 hT ht hl hz
  go_enter Tryd.func17, Tryd.ntmps17
  by_cases hq : ts.length = ls.length + 1
  · have hw1 : wrap64 ((ls.length : Int) + 1) = (ts.length : Int) := by rw [w64 (by have := HL.out; omega)]; omega
    have HQ := Aside0.mk hq
    have HW := Aside0.mk hw1
    clear hq
    go_upto_region 5 with fail
    obtain ⟨g, hg⟩ : ∃ g, g = w.heap.size := ⟨_, rfl⟩
    have hW0 : ((w.alloc (.cells #[.slice A0 ts.length c0, .slice A1 ls.length c1] 37)).alloc (.cells #[.pointer none, .slice none 0 0] 57)).heap[g]? = some (.cells #[.slice A0 ts.length c0, .slice A1 ls.length c1] 37 (0, 0)) := (Below.heap_alloc _ _ g (by rw [sz_alloc]; omega)).trans (by rw [hg]; exact blk_new _ _)
    have hI0 : IsB (w.heap.size + 1) [] ((w.alloc (.cells #[.slice A0 ts.length c0, .slice A1 ls.length c1] 37)).alloc (.cells #[.pointer none, .slice none 0 0] 57)) := by
      have h := Lib.IsBuilderF.of (Lib.fresh_isBuilder 57 5 (w.alloc (.cells #[.slice A0 ts.length c0, .slice A1 ls.length c1] 37)))
      rw [sz_alloc] at h
      exact h
    have hB0 : Below w.heap.size w ((w.alloc (.cells #[.slice A0 ts.length c0, .slice A1 ls.length c1] 37)).alloc (.cells #[.pointer none, .slice none 0 0] 57)) := below_alloc (below_alloc (Below.refl _ _) _) _
    rw [← hg] at hI0 ⊢
    generalize ((w.alloc (.cells #[.slice A0 ts.length c0, .slice A1 ls.length c1] 37)).alloc (.cells #[.pointer none, .slice none 0 0] 57)) = w2 at hW0 hI0 hB0 ⊢
    have HG := Aside0.mk hg
    have HW0 := Aside0.mk hW0
    have HI0 := Aside0.mk hI0
    have HB0 := Aside0.mk hB0
    have HLN := Aside0.mk (rawL_len ts ls (fun l hl => by have := szs_mem hl; have := HZ.out; omega))
    clear hg hW0 hI0 hB0 hw1
    go_loopg [17] ls.length (fun kq v17 wr => ∃ (x : Int) (i : Nat) (acc : List UInt8), v17 = .int .i64 x ∧ Aside0 (x = i ∧ i + kq = ls.length ∧ acc ++ rawL (ts.drop i) (ls.drop i) = rawL ts ls) ∧ Aside0 (IsB (g + 1) acc wr) ∧ Aside0 (wr.heap[g]? = some (.cells #[.slice A0 ts.length c0, .slice A1 ls.length c1] 37 (0, 0))) ∧ Aside0 (Below w.heap.size w wr))
    case atStart => exact ⟨0, 0, [], rfl, ⟨rfl, by omega, rfl⟩, HI0, HW0, HB0⟩
    case round =>
      obtain ⟨x, i, acc, rfl, HX, HI, HC, HB⟩ := hrel
      clear HI0 HW0 HB0
      have HAL := Aside0.mk (show acc.length ≤ 21000 by have h := HX.out.2.2; have h2 := HLN.out; rw [← h, List.length_append] at h2; have := HZ.out; have := HL.out; omega)
      have k0 := (blk_cell HC.out 0).trans (show _ = some (Value.slice A0 ts.length c0) from rfl)
      have k1 := (blk_cell HC.out 1).trans (show _ = some (Value.slice A1 ls.length c1) from rfl)
      cases gk with
      | zero =>
        have c1b : decide (x < (ls.length : Int)) = false := decide_eq_false (by have := HX.out; omega)
        have HIE := Aside0.mk (show i = ls.length by have := HX.out; omega)
        have y1 : (ls.length : Int) < (ts.length : Int) := by have := HQ.out; omega
        have y0 : (0 : Int) ≤ (ls.length : Int) := by omega
        obtain ⟨ad0, rfl, hx0⟩ := Kd.at_string (Kd.C_below HR0.out HB.out) (ls.length : Int) y0 y1
        obtain ⟨t, ht⟩ : ∃ t, t = rdOf ByteArray.empty ts (ls.length : Int) := ⟨_, rfl⟩
        rw [← ht, Int.toNat_natCast] at hx0
        have HTT := Aside0.mk ht
        have HS := Aside0.mk (show t.size ≤ 20000 from by
          have h2 := HTT.out
          have e2 := HQ.out
          rw [rdB ts ls.length (by omega)] at h2
          have h4 := szs_mem (List.getElem_mem (show ls.length < ts.length by omega))
          have := HZ.out
          rw [h2]
          omega)
        have v0 := eq_false (show ¬ 9223372036854775807 < t.size + 2 by have := HS.out; omega)
        have y0b := eq_true y0
        have y1b := eq_true y1
        have y1n := eq_true (show ls.length < ts.length by omega)
        clear ht y0 y1
        go_wp2_with fail
        refine (writeString_ok (g + 1) acc _ _ HI.out (by have := HAL.out; omega) ?hC).mono ?_
        case hC =>
          have := HS.out
          have : (⟨#[13, 10]⟩ : ByteArray).size = 2 := rfl
          rw [ByteArray.size_append]
          omega
        rintro e w4 ⟨rfl, hB4, hK4⟩
        have HI4 := Aside0.mk hB4
        have HB4 := Aside0.mk (HB.out.trans (hK4.below.mono (by have := HG.out; omega)))
        clear hB4 hK4 hx0 v0 y0b y1b y1n k0 k1
        go_wp2_with fail
        refine (bString_any (g + 1) (g + 1) _ _ HI4.out (by have := HI4.out.lt'; omega)).mono ?_
        rintro e w5 ⟨rfl, _, hb5, _⟩
        have HB5 := Aside0.mk (HB4.out.trans (hb5.mono (by have := HG.out; omega)))
        clear hb5
        go_wp2_with fail
        go_ret
        refine ⟨?_, HB5.out⟩
        have hfin : acc ++ (t ++ { data := #[13, 10] }).data.toList = bytesS ts ls := by
          unfold bytesS
          rw [if_pos HQ.out, ← HX.out.2.2, HIE.out, dropB ts ls.length (by have := HQ.out; omega), List.drop_eq_nil_of_le (Nat.le_refl ls.length)]
          have h2 := HTT.out
          rw [rdB ts ls.length (by have := HQ.out; omega)] at h2
          rw [← h2]
          show acc ++ lbytes _ = acc ++ (lbytes t ++ [13, 10])
          rw [lb_app]
          rfl
        have hfin' : acc ++ (t.data.toList ++ [13, 10]) = bytesS ts ls := by rw [← hfin, ByteArray.data_append, Array.toList_append]
        show Ending.returned (.string (str (acc ++ (t.data.toList ++ [13, 10])))) = _
        rw [hfin']
      | succ kk1 =>
        have z1 : x < (ls.length : Int) := by have := HX.out; omega
        have z0 : 0 ≤ x := by have := HX.out; omega
        have y1 : x < (ts.length : Int) := by have := HX.out; have := HQ.out; omega
        have c1b : decide (x < (ls.length : Int)) = true := decide_eq_true z1
        obtain ⟨ad1, rfl, hx1⟩ := Kd.at_string (Kd.C_below HR1.out HB.out) x z0 z1
        obtain ⟨ad0, rfl, hx0⟩ := Kd.at_string (Kd.C_below HR0.out HB.out) x z0 y1
        obtain ⟨l, hl⟩ : ∃ l, l = rdOf ByteArray.empty ls x := ⟨_, rfl⟩
        obtain ⟨t, ht⟩ : ∃ t, t = rdOf ByteArray.empty ts x := ⟨_, rfl⟩
        rw [← hl] at hx1
        rw [← ht] at hx0
        have HLT := Aside0.mk (And.intro hl ht)
        have z0b := eq_true z0
        have z1b := eq_true z1
        have y1b := eq_true y1
        clear hl ht z0 z1 y1
        have HS := Aside0.mk (show t.size ≤ 20000 ∧ l.size ≤ 20000 from by
          have h1 := HX.out.1
          have h2 := HLT.out
          have e1 : x < (ls.length : Int) := of_decide_eq_true c1b
          have e2 := HQ.out
          subst h1
          rw [rdB ls i (by omega), rdB ts i (by omega)] at h2
          have h3 := szs_mem (List.getElem_mem (show i < ls.length by omega))
          have h4 := szs_mem (List.getElem_mem (show i < ts.length by omega))
          have := HZ.out
          rw [h2.1, h2.2]
          omega)
        obtain ⟨dg, hdg⟩ : ∃ d, d = str (Lib.itoa (l.size : Int)) := ⟨_, rfl⟩
        have HD := Aside0.mk (show dg.size ≤ 5 by
          rw [hdg, Lib.itoa, if_neg (by omega), Int.toNat_natCast]
          exact decDigits_len 4 _ (by have := HS.out; omega))
        have HDG := Aside0.mk hdg
        clear hdg
        have HT7 := Aside0.mk (fun (W : World) (hb : Below (g + 1) wr W) => (HT.out.below (HB.out.trans (hb.mono (by have := HG.out; omega)))))
        have HKS := Aside0.mk (fun (W : World) (hb : Below (g + 1) wr W) => (by
          refine ⟨?_, ?_, ⟨hb⟩⟩
          · rw [← k0]; exact hb.cell (p := ⟨g, 0, none⟩) (Nat.lt_succ_self g)
          · obtain ⟨ad, e1, e2⟩ := Kd.at_string (Kd.C_below HR0.out (HB.out.trans (hb.mono (by have := HG.out; omega)))) x (of_eq_true z0b) (of_eq_true y1b)
            injection e1 with e1
            subst e1
            rw [HLT.out.2]
            exact e2 : W.cell? ⟨g, 0, none⟩ = some (.slice (some ad0) ts.length c0) ∧ W.cell? (ad0.add x.toNat) = some (.string t) ∧ Aside0 (Below (g + 1) wr W)))
        have v0 := eq_false (show ¬ 9223372036854775807 < t.size + 1 by have := HS.out; have := HD.out; omega)
        have v1 := eq_false (show ¬ 9223372036854775807 < t.size + 1 + dg.size by have := HS.out; have := HD.out; omega)
        have v2 := eq_false (show ¬ 9223372036854775807 < t.size + 1 + dg.size + 4 by have := HS.out; have := HD.out; omega)
        have v3 := eq_false (show ¬ 9223372036854775807 < t.size + 1 + dg.size + 4 + l.size by have := HS.out; have := HD.out; omega)
        have v5 := eq_false (show ¬ 9223372036854775807 ≤ t.size by have := HS.out; omega)
        have HI0 := Aside0.mk (show IsB (g + 1) acc wr from HI.out)
        go_upto_region 7 with fail
        clear hx1
        go_region_held3 (fun W => W.cell? ⟨g, 0, none⟩ = some (.slice (some ad0) ts.length c0) ∧ W.cell? (ad0.add x.toNat) = some (.string t) ∧ Aside0 (Below (g + 1) wr W)) (first | exact hHeld | (refine HKS.out _ ?_; first | (with_reducible assumption) | (with_reducible exact Below.refl _ _) | ((repeat (first | (with_reducible exact hHeld.2.2.out) | (with_reducible first | exact Below.refl _ _ | assumption | apply pw_below_drewN | apply below_drew1))); done))) (first | (go_at_call 22; refine (itoa_any (l.size : Int) ?hA ?hB _ ?hC).mono ?_; (case hA => omega); (case hB => have := HS.out; omega); (case hC => refine HT7.out _ ?_; (with_reducible repeat (first | exact Below.refl _ _ | assumption | apply pw_below_drewN | apply below_drew1))); rintro e w3 ⟨rfl, hw3⟩; have hb3' : Below wr.heap.size wr w3 := (by obtain ⟨kk, os, rfl⟩ := hw3; refine Below.trans ?_ (Lib.below_grow _ _ ?_ kk os); (with_reducible repeat (first | exact Below.refl _ _ | assumption | apply pw_below_drewN | apply below_drew1)); exact Nat.le_refl _); have hb3 : Below (g + 1) wr w3 := hb3'.mono (Nat.le_of_lt HI0.out.lt'); have HI3 := Aside0.mk (IsB.later HI0.out hb3'); rw [show (⟨(Lib.itoa (l.size : Int)).toArray⟩ : ByteArray) = dg from HDG.out.symm]; clear hw3 hb3') | (go_at_call 21; refine (writeString_ok (g + 1) acc _ _ ?hA ?hB ?hC).mono ?_; (case hA => (with_reducible repeat (first | exact Aside0.out (by assumption) | refine IsB_drew ?_ | refine IsB_drewN ?_))); (case hB => have := HAL.out; omega); (case hC => simp only [ByteArray.size_append]; have := HS.out; have := HD.out; have : (⟨#[123]⟩ : ByteArray).size = 1 := rfl; have : (⟨#[43, 125, 13, 10]⟩ : ByteArray).size = 4 := rfl; omega); rintro e w4 ⟨rfl, hB4, hK4⟩; have HI4 := Aside0.mk hB4; have hb4 : Below (g + 1) wr w4 := (by refine Below.trans ?_ hK4.below; (with_reducible repeat (first | exact Below.refl _ _ | assumption | apply pw_below_drewN | apply below_drew1))); clear hB4 hK4))
        clear v1 v2 v3 v5 z0b z1b y1b hx0 k0 k1
        have HF4 := Aside0.mk (show w4.heap[g]? = some (.cells #[.slice (some ad0) ts.length c0, .slice (some ad1) ls.length c1] 37 (0, 0)) from (hb4.block g (Nat.lt_succ_self g)).trans HC.out)
        have HB4 := Aside0.mk (HB.out.trans (hb4.mono (by have := HG.out; omega)))
        have HX4 := Aside0.mk (show (acc ++ (t ++ { data := #[123] } ++ dg ++ { data := #[43, 125, 13, 10] } ++ l).data.toList) ++ rawL (ts.drop (i + 1)) (ls.drop (i + 1)) = rawL ts ls by
          have h1 := HX.out.1
          have h2 := HLT.out
          have e1 : x < (ls.length : Int) := of_decide_eq_true c1b
          have e2 := HQ.out
          rw [← HX.out.2.2]
          subst h1
          rw [rdB ls i (by omega), rdB ts i (by omega)] at h2
          rw [dropB ts i (by omega), dropB ls i (by omega), ← h2.1, ← h2.2]
          show (acc ++ lbytes _) ++ _ = _
          simp only [lb_app, rawL, mk]
          rw [HDG.out, Lib.itoa, if_neg (by omega), Int.toNat_natCast]
          show (acc ++ (lbytes t ++ [123] ++ Lib.decDigits l.size ++ [43, 125, 13, 10] ++ lbytes l)) ++ _ = acc ++ (lbytes t ++ (123 :: (Lib.decDigits l.size ++ [43, 125])) ++ [13, 10] ++ lbytes l ++ _)
          simp [List.append_assoc])
        clear hb3 hb4
        go_wp2_with fail
        go_roundg kk1
        case measure => omega
        case rel => exact ⟨wrap64 (x + 1), i + 1, _, rfl, ⟨by have := HX.out; have := HL.out; unfold wrap64; omega, by have := HX.out; omega, HX4.out⟩, HI4, HF4, HB4⟩
  · have hw1 : wrap64 ((ls.length : Int) + 1) = (ls.length : Int) + 1 := w64 (by have := HL.out; omega)
    have hq2 : ((ts.length : Int) != (ls.length : Int) + 1) = true := by
      simp only [bne_iff_ne, ne_eq]
      omega
    have HQ := Aside0.mk hq
    clear hq
    go_wp2_with fail
    go_ret
    exact ⟨by unfold bytesS; rw [if_neg HQ.out]; rfl, below_alloc (Below.refl _ _) _⟩
end Go.Proofs.YtakfdmhoooeejaaDoor.PP
