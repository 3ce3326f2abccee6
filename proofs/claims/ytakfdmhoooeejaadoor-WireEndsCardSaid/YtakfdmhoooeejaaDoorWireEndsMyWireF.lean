/- YtakfdmhoooeejaaDoorMyWireF, as far as WireEnds needs it (prune.py). -/
import Derived.Test.YtakfdmhoooeejaaDoorWireEndsMyWireE
namespace Go.Proofs.YtakfdmhoooeejaaDoor.PP
open Go.RowKit Go.Proofs.YtakfdmhoooeejaaDoorW.PrintWords Go.Proofs.YtakfdmhoooeejaaDoorW.PrintLast Go.Proofs.YtakfdmhoooeejaaDoorW.PrintMore
open Go.Proofs.YtakfdmhoooeejaaDoor.My
set_option linter.unusedVariables false
set_option linter.unusedSimpArgs false
def inLineS (s : FS) (c : UInt8) : FS × List Evt :=
  if c = 10 then endLineS s (Lib.trimSuffix s.line [13])
  else if s.size + (s.line.length + 1) - (if c = 13 then 1 else 0) ≤ 4000 then ({ s with line := s.line ++ [c] }, [])
  else ({ beginS s with skip := true, md := .skipLine }, [evt 3 (s.texts ++ [str ((s.line ++ [c]).take (4000 - s.size).toNat)]) s.lits])
theorem C_one' (W : World) (x : ByteArray) {b : Nat} (hb : b = W.heap.size) : Kd.C Kd.string (W.alloc (.cells #[.string x] 9)) (some ⟨b, 0, none⟩) 1 [x] := by rw [hb]; exact C_one W x
theorem SRow.setNe {w : World} {base b : Nat} {v : Value} {l : List ByteArray} (h : SRow w base v l) (hb : b < base) (i : Nat) (u : Value) : SRow (w.setCell ⟨b, i, none⟩ u) base v l := R_same h (fun k hk => set_ne (by have := Kd.R_base h k hk; omega))
theorem conv_take {w : World} {N0 : Nat} {A : Option Addr} {c k : Nat} {l : List UInt8} (h : BRow w N0 (.slice A (nb l).length c) l) (hk : k ≤ l.length) : (convert 31 9 (.slice A k c)).run Tryd.prog w = .ok (.string (str (l.take k))) w := by
  have h1 := Kd.C_take (Kd.R_reads' h).2.2 (show k ≤ (nb l).length by rw [nb_len]; exact hk)
  have hkl : ((nb l).take k).length = k := by rw [List.length_take, nb_len]; omega
  rw [hkl] at h1
  have h2 := Kd.C_string (P := Tryd.prog) (c := c) Tryd.underlying31 Tryd.underlying5 Tryd.underlying9 h1
  rw [h2]
  have e : (nb l).take k = nb (l.take k) := by simp [nb]
  rw [e]
  unfold nb
  rw [strOf_map]
  rfl
theorem trimS_le (l p : List UInt8) : (Lib.trimSuffix l p).length ≤ l.length := by
  unfold Lib.trimSuffix
  split
  · rw [List.length_take]; omega
  · exact Nat.le_refl _
set_option maxHeartbeats 4000000 in
set_option maxRecDepth 100000 in
theorem inLine_ok (N0 g : Nat) (w : World) (V : FV) (s : FS) (c : UInt8) (h : FW N0 w g V s) (hl : s.line.length ≤ 100000000) (ht : s.texts.length ≤ 100000) (hll : s.lits.length ≤ 100000) (hsz : 0 ≤ s.size ∧ s.size ≤ 4000) :
    Calls Tryd.prog 25 #[.pointer (some ⟨g, 0, none⟩), .int .u8 c.toNat] w fun e w' => ∃ (vo : Value) (V' : FV), e = .returned vo ∧ EN w' w.heap.size g V' vo (inLineS s c).2 ∧ FW N0 w' g V' (inLineS s c).1 ∧ FX N0 g w V w' V' := by
  have HV := Aside0.mk h
  have HL := Aside0.mk hl
  have HT := Aside0.mk ht
  have HLL := Aside0.mk hll
  have HSZ := Aside0.mk hsz
  obtain ⟨Ab, cb, eb⟩ := Kd.R_slice h.rb
  obtain ⟨⟨c0, c1, c2, c3, c4, c5, c6⟩, f0, f1, f2, f3, f4, f5, f6⟩ := h.all
  rw [eb] at c2
  have hcv0 := conv_str (eb ▸ h.rb) 0
  rw [drewN0] at hcv0
  have HEB := Aside0.mk eb
  clear h hl ht hll hsz eb
  go_enter Tryd.func25, Tryd.ntmps25
  by_cases hz : c = 10
  ·
    have hzb : ((c.toNat : Int) == 10) = true := by rw [hz]; rfl
    have HM := Aside0.mk (show inLineS s c = endLineS s (Lib.trimSuffix s.line [13]) by unfold inLineS; rw [if_pos hz])
    clear hz
    go_wp2_with fail
    refine (trimSuffix_any (str s.line) ⟨#[13]⟩ _ (by have := HL.out; rw [str_size]; omega)).mono ?_
    rintro e w1 ⟨rfl, rfl⟩
    rw [str_list, show ((⟨#[13]⟩ : ByteArray).data.toList) = [13] from rfl, show (⟨(Lib.trimSuffix s.line [13]).toArray⟩ : ByteArray) = str (Lib.trimSuffix s.line [13]) from rfl]
    have HTS := Aside0.mk (show (Lib.trimSuffix s.line [13]).length ≤ s.line.length from trimS_le _ _)
    go_wp2_with fail
    refine (endLine_ok N0 g _ V s (Lib.trimSuffix s.line [13]) HV.out (by have := HTS.out; have := HL.out; omega) HT.out HLL.out (by have := HSZ.out; omega)).mono ?_
    rintro e w2 ⟨vo, V2, rfl, ho, hv, hx⟩
    have HO := Aside0.mk ho
    have HV2 := Aside0.mk hv
    have HX2 := Aside0.mk hx
    clear ho hv hx
    go_wp2_with fail
    go_ret
    refine ⟨vo, V2, rfl, ?_, ?_, HX2.out⟩
    · rw [HM.out]; exact HO.out
    · rw [HM.out]; exact HV2.out
  · have hzb : ((c.toNat : Int) == 10) = false := by
      rw [beq_eq_false_iff_ne]
      exact fun e => hz (UInt8.toNat_inj.1 (by show c.toNat = 10; omega))
    have HZ := Aside0.mk hz
    clear hz hcv0
    go_wp2_with (first | ((with_reducible refine gate_builtin (b := .append) (xs := #[.tmp 23, .tmp 25]) rfl ?_); (try (refine gate_guard (by rfl) ?_; dsimp only)); at_builtin; refine Kd.R_append (Kd.int .u8) (w0 := w) N0 rfl (.tmp 23) (.tmp 25) 31 5 (.int .u8 0) 1 rfl Tryd.underlying31 inf8 rfl (by decide) (by omega) (.slice Ab (nb s.line).length cb) (nb s.line) (c.toNat : Int) [.int .u8 c.toNat] (fun _ => True) (fun _ => False) rfl ?aX ?aP (fun _ hk => hk.elim) ?aF ?aO ?aB ?aS ?aL ?_; (case aX => exact rfl); (case aP => exact rfl); (case aF => exact (fun _ _ => trivial)); (case aO => have h := HV.out.rb; rw [HEB.out] at h; exact h); (case aB => exact Below.refl _ _); (case aS => have := HV.out.lt; have := HV.out.ge; omega); (case aL => have := HL.out; rw [nb_len]; omega); intro v9 w9 ho hb hg hat; rw [← HEB.out] at hg hat; rw [← nb_app] at ho; have HR9 := Aside0.mk ho; obtain ⟨m9, hm9⟩ : ∃ m9, m9 = (nb (s.line ++ [c])).length := ⟨_, rfl⟩; obtain ⟨A9, c9, e9⟩ := Kd.R_slice ho; rw [← hm9] at e9; subst e9; have HM9 := Aside0.mk hm9; clear hm9; obtain ⟨⟨d0, d1, d2, d3, d4, d5, d6⟩, g0, g1, g2, g3, g4, g5, g6⟩ := fall (HV.out.g1B hg); have HV9 := Aside0.mk (HV.out.appB hg hat ho); have HX9 := Aside0.mk ((FX.refl N0 g w _).appB HV.out hb hg hat); clear ho hb hg hat))
    clear c0 c1 c2 c3 c4 c5 c6 f0 f1 f2 f3 f4 f5 f6 d0 d1 d2 d3 d4 d5 d6 g0 g1 g2 g3 g4 g5 g6
    obtain ⟨V1, hV1⟩ : ∃ V1 : FV, V1 = ⟨V.t, V.l, .slice A9 m9 c9⟩ := ⟨_, rfl⟩
    have hVb : V1.b = .slice A9 m9 c9 := by rw [hV1]
    rw [← hV1] at HV9 HX9
    clear hV1
    have HS9 := Aside0.mk HX9.out.kept.1
    generalize w9.setCell ⟨g, 2, none⟩ (.slice A9 m9 c9) = w10 at HV9 HX9 HS9 ⊢
    obtain ⟨⟨c0, c1, c2, c3, c4, c5, c6⟩, f0, f1, f2, f3, f4, f5, f6⟩ := HV9.out.all
    rw [hVb] at c2
    have HVB := Aside0.mk hVb
    clear hVb
    obtain ⟨z, hz⟩ : ∃ z, wrap64 (s.size + (m9 : Int)) = z := ⟨_, rfl⟩
    have hzw : IntKind.i64.wrap (s.size + (m9 : Int)) = z := (i64_w _).trans hz
    obtain ⟨z1, hz1⟩ : ∃ z1, wrap64 (z - 1) = z1 := ⟨_, rfl⟩
    have hzw1 : IntKind.i64.wrap (z - 1) = z1 := (i64_w _).trans hz1
    have HX := Aside0.mk (show z = s.size + s.line.length + 1 ∧ z1 = z - 1 ∧ m9 = s.line.length + 1 by
      have h1 := HM9.out
      rw [nb_len, List.length_append, List.length_singleton] at h1
      have := HL.out; have := HSZ.out
      have e1 : z = s.size + (m9 : Int) := by rw [← hz]; unfold wrap64; omega
      refine ⟨by omega, ?_, h1⟩
      rw [← hz1]; unfold wrap64; omega)
    clear hz hz1
    go_wp2_with fail
    repeat (go_quiet (fail))
    generalize hw11 : w10.drewN nq = w11
    have hb11 : Below w10.heap.size w10 w11 := by rw [← hw11]; exact pw_below_drewN (Below.refl _ _) nq
    have HV11 := Aside0.mk (HV9.out.below hb11)
    have HX11 := Aside0.mk (HX9.out.below (by have := HV9.out.lt; have := HV9.out.ge; omega) hb11)
    clear hb11 hw11 c0 c1 c2 c3 c4 c5 c6 f0 f1 f2 f3 f4 f5 f6
    by_cases h13 : c = 13
    · have h13b : ((c.toNat : Int) == 13) = true := by rw [h13]; rfl
      have H13 := Aside0.mk h13
      clear h13
      by_cases hle : z1 ≤ 4000
      · have hleb := decide_eq_true hle
        have HM := Aside0.mk (show inLineS s c = ({ s with line := s.line ++ [c] }, []) by
          unfold inLineS
          rw [if_neg HZ.out, if_pos (by rw [if_pos H13.out]; have := HX.out; omega)])
        clear hle
        go_wp2_with fail
        go_ret
        refine ⟨_, _, rfl, ?_, ?_, HX11.out⟩
        · rw [HM.out]; exact Kd.N_nil _ _ _ _ _
        · rw [HM.out]; exact HV11.out
      · have hleb := decide_eq_false hle
        have HM := Aside0.mk (show inLineS s c = ({ beginS s with skip := true, md := .skipLine }, [evt 3 (s.texts ++ [str ((s.line ++ [c]).take (4000 - s.size).toNat)]) s.lits]) by
          unfold inLineS
          rw [if_neg HZ.out, if_neg (by rw [if_pos H13.out]; have := HX.out; omega)])
        have HGT := Aside0.mk (show 4000 < s.size + (s.line.length : Int) + 1 by have := HX.out; omega)
        clear hle
        obtain ⟨y, hy⟩ : ∃ y, wrap64 (4000 - s.size) = y := ⟨_, rfl⟩
        have hyw : IntKind.i64.wrap (4000 - s.size) = y := (i64_w _).trans hy
        have HY := Aside0.mk (show y = 4000 - s.size ∧ y.toNat ≤ (s.line ++ [c]).length ∧ m9 ≤ c9 by
          have := HSZ.out; have := HGT.out
          have e : y = 4000 - s.size := by rw [← hy]; unfold wrap64; omega
          have h2 := HV11.out.rb
          rw [HVB.out, HM9.out] at h2
          have := (Kd.R_reads' h2).2.1
          rw [← HM9.out] at this
          exact ⟨e, by rw [List.length_append, List.length_singleton]; omega, this⟩)
        clear hy
        have p1 := eq_true (show 0 ≤ y by have := HY.out; have := HSZ.out; omega)
        have p2 := eq_true (show y ≤ (c9 : Int) by have := HY.out; have := HX.out; have := HGT.out; have := HSZ.out; omega)
        obtain ⟨x, hx⟩ : ∃ x, x = str ((s.line ++ [c]).take y.toNat) := ⟨_, rfl⟩
        have HXX := Aside0.mk hx
        have HK := Aside0.mk (fun (W : World) (hb : Below w11.heap.size w11 W) => (by
          have hw := (HV11.out.below hb)
          have ha := hw.all.1
          refine ⟨by have := ha.2.2.1; rwa [HVB.out] at this, ha.2.2.2.1, ?_, ⟨hb⟩⟩
          have h2 := hw.rb
          rw [HVB.out, HM9.out] at h2
          rw [hx]
          exact conv_take h2 HY.out.2.1 : W.cell? ⟨g, 2, none⟩ = some (.slice A9 m9 c9) ∧ W.cell? ⟨g, 3, none⟩ = some (.int .i64 s.size) ∧ (convert 31 9 (.slice A9 y.toNat c9)).run Tryd.prog W = .ok (.string x) W ∧ Aside0 (Below w11.heap.size w11 W)))
        clear hx
        obtain ⟨k2, k3, k4, k5⟩ := HK.out w11 (Below.refl _ _)
        go_wp2_with fail
        go_region_held3 (fun W => W.cell? ⟨g, 2, none⟩ = some (.slice A9 m9 c9) ∧ W.cell? ⟨g, 3, none⟩ = some (.int .i64 s.size) ∧ (convert 31 9 (.slice A9 y.toNat c9)).run Tryd.prog W = .ok (.string x) W ∧ Aside0 (Below w11.heap.size w11 W)) (first | exact hHeld | (refine HK.out _ ?_; first | (with_reducible assumption) | (with_reducible exact Below.refl _ _) | ((repeat (first | (with_reducible exact hHeld.2.2.2.out) | (with_reducible first | exact Below.refl _ _ | assumption | apply below_alloc | apply pw_below_drewN | apply below_drew1 | (refine below_setG ?_ (by omega))))); done))) (first | (go_at_call 30; refine (raw_ok N0 g _ V1 _ _ 1 x (HV11.out.below (by repeat (first | exact hHeld.2.2.2.out | (with_reducible first | exact Below.refl _ _ | apply below_alloc | apply pw_below_drewN | apply below_drew1)))) (by (with_reducible repeat (first | (refine C_one' _ _ ?_; simp only [World.size_alloc, World.size_drew]; done) | apply Kd.C_alloc | apply Kd.C_drewN | apply Kd.C_drew))) (by have := HT.out; dsimp only; omega) (by have := HLL.out; dsimp only; omega)).mono ?_; rintro e w2 ⟨A1, A2, c1', c2', rfl, hr1, hr2, hb3⟩; have HR1 := Aside0.mk hr1; have HR2 := Aside0.mk hr2; have hb4 : Below w11.heap.size w11 w2 := Below.trans (by repeat (first | exact hHeld.2.2.2.out | (with_reducible first | exact Below.refl _ _ | apply below_alloc | apply pw_below_drewN | apply below_drew1))) (hb3.mono (below_size (by repeat (first | exact hHeld.2.2.2.out | (with_reducible first | exact Below.refl _ _ | apply below_alloc | apply pw_below_drewN | apply below_drew1))))); have HB4 := Aside0.mk hb4; try have q0 := hb3.cell (p := ⟨w11.heap.size, 0, none⟩) (by simp only [World.size_alloc, World.size_drew]; omega); try have q1 := hb3.cell (p := ⟨w11.heap.size, 1, none⟩) (by simp only [World.size_alloc, World.size_drew]; omega); try have q2 := hb3.cell (p := ⟨w11.heap.size + 1, 0, none⟩) (by simp only [World.size_alloc, World.size_drew]; omega); try have q3 := hb3.cell (p := ⟨w11.heap.size + 1, 1, none⟩) (by simp only [World.size_alloc, World.size_drew]; omega); try have r0 := hb3.frozen (p := ⟨w11.heap.size, 0, none⟩) (by simp only [World.size_alloc, World.size_drew]; omega); try have r1 := hb3.frozen (p := ⟨w11.heap.size, 1, none⟩) (by simp only [World.size_alloc, World.size_drew]; omega); try have r2 := hb3.frozen (p := ⟨w11.heap.size + 1, 0, none⟩) (by simp only [World.size_alloc, World.size_drew]; omega); try have r3 := hb3.frozen (p := ⟨w11.heap.size + 1, 1, none⟩) (by simp only [World.size_alloc, World.size_drew]; omega); have HB3 := Aside0.mk hb3; clear hr1 hr2 hb3))
        all_goals try clear q0 q1
        all_goals try clear q2 q3
        all_goals try clear r0 r1
        all_goals try clear r2 r3
        all_goals clear hb4 p1 p2
        · obtain ⟨W3, hW3⟩ : ∃ W3, W3 = (w2.alloc (.cells #[.slice A1 (s.texts.length + 1) c1', .slice A2 s.lits.length c2'] 37)) := ⟨_, rfl⟩
          rw [← hW3]
          have hk3 : W3.heap[w2.heap.size]? = some (.cells #[.slice A1 (s.texts.length + 1) c1', .slice A2 s.lits.length c2'] 37 (0, 0)) := by
            rw [hW3]
            exact blk_new _ _
          have hb5 : Below w11.heap.size w11 W3 := by rw [hW3]; exact HB4.out.trans ((below_alloc (Below.refl _ _) _).mono HB4.out.size)
          have HRB := Aside0.mk (show w11.heap.size ≤ w2.heap.size ∧ w2.heap.size < W3.heap.size from ⟨HB4.out.size, (Array.getElem?_eq_some_iff.1 hk3).1⟩)
          have HR3 := Aside0.mk (show SRow W3 w11.heap.size (.slice A1 (s.texts.length + 1) c1') (s.texts ++ [x]) ∧ SRow W3 w11.heap.size (.slice A2 s.lits.length c2') s.lits from by rw [hW3]; exact ⟨Kd.R_lower (Kd.R_below HR1.out (below_alloc (Below.refl _ _) _)) (by simp only [World.size_alloc, World.size_drew]; omega), Kd.R_lower (Kd.R_below HR2.out (below_alloc (Below.refl _ _) _)) (by simp only [World.size_alloc, World.size_drew]; omega)⟩)
          have HV3 := Aside0.mk (HV11.out.below hb5)
          have HX3 := Aside0.mk (HX11.out.below (by have := HV11.out.lt; have := HV11.out.ge; omega) hb5)
          clear hb5 hW3 k2 k3 k4 k5
          have HRB0 := Aside0.mk HRB.out
          obtain ⟨rB, hrB⟩ : ∃ rB, rB = w2.heap.size := ⟨_, rfl⟩
          rw [← hrB] at hk3 ⊢
          replace HRB := Aside0.mk (show w11.heap.size ≤ rB ∧ rB < W3.heap.size by rw [hrB]; exact HRB0.out)
          clear hrB HRB0
          go_wp2_with fail
          refine (begin_ok N0 g W3 V1 _ HV3.out).mono ?_
          rintro e w4 ⟨rfl, hw4, hx4⟩
          have hfb : ∀ k, w11.heap.size ≤ k → ¬ FB g V1 k := fun k hk hf => by have := HV11.out.fb_lt k hf; omega
          have hk4 := (hx4.kept.2 rB HRB.out.2 (hfb rB HRB.out.1)).trans hk3
          have HR4 := Aside0.mk (And.intro (SRow.kept HR3.out.1 hx4.kept hfb) (SRow.kept HR3.out.2 hx4.kept hfb))
          have HV4 := Aside0.mk hw4
          have HX4 := Aside0.mk (HX3.out.trans hx4)
          have HS4 := Aside0.mk (show w11.heap.size ≤ w4.heap.size ∧ g < w11.heap.size from ⟨by have := hx4.kept.1; have := HRB.out; omega, HV11.out.lt⟩)
          clear hw4 hx4 hfb hk3
          obtain ⟨⟨_, _, _, _, e4, e5, e6⟩, _, _, _, _, f4, f5, f6⟩ := HV4.out.all
          have HK4 := Aside0.mk hk4
          clear hk4
          go_upto_region 13 with fail
          have HV5 := Aside0.mk (show FW N0 ((w4.setCell ⟨g, 6, none⟩ (.bool true)).setCell ⟨g, 4, none⟩ (.func (.func 31) #[.pointer (some ⟨g, 0, none⟩)] #[])) g vnil { beginS s with skip := true, md := .skipLine } from HV4.out.put (fun k hk => by rw [set_ne hk, set_ne hk]) (blk_set (blk_set HV4.out.blk 6 _) 4 _) (.inl ⟨rfl, rfl⟩) (.inl ⟨rfl, rfl⟩) (.inl ⟨rfl, rfl⟩))
          have HX5 := Aside0.mk (((FX.refl N0 g w4 vnil).set HV4.out 6 (.bool true)).set HV4.out 4 (.func (.func 31) #[.pointer (some ⟨g, 0, none⟩)] #[]))
          generalize ((w4.setCell ⟨g, 6, none⟩ (.bool true)).setCell ⟨g, 4, none⟩ (.func (.func 31) #[.pointer (some ⟨g, 0, none⟩)] #[])) = w5 at HV5 HX5 ⊢
          clear e4 e5 e6 f4 f5 f6
          have hfb : ∀ k, w11.heap.size ≤ k → ¬ FB g vnil k := fun k hk hf => by rw [FB_nil g k hf] at hk; have := HS4.out.2; omega
          have hk6 := (HX5.out.kept.2 rB (Array.getElem?_eq_some_iff.1 HK4.out).1 (hfb rB HRB.out.1)).trans HK4.out
          have d0 := (blk_cell hk6 0).trans (show _ = some (Value.slice A1 (s.texts.length + 1) c1') from rfl)
          have d1 := (blk_cell hk6 1).trans (show _ = some (Value.slice A2 s.lits.length c2') from rfl)
          have HR6 := Aside0.mk (And.intro (SRow.kept HR4.out.1 HX5.out.kept hfb) (SRow.kept HR4.out.2 HX5.out.kept hfb))
          have HX6 := Aside0.mk (HX4.out.trans HX5.out)
          have HS6 := Aside0.mk (show w11.heap.size ≤ w5.heap.size by have := HX5.out.kept.1; have := HS4.out; omega)
          clear hfb hk6
          go_wp2_with fail
          refine (one_ok 3 A1 A2 _ _ c1' c2' (s.texts ++ [x]) s.lits w11.heap.size _ HR6.out.1 HR6.out.2 HS6.out).mono ?_
          rintro e w7 ⟨A7, c7, rfl, ho, hb⟩
          have HO := Aside0.mk (EN.of_new (g := g) (V := vnil) ho (show w.heap.size ≤ w11.heap.size from HX11.out.kept.1) (fun k hk => by rw [FB_nil g k hk]; exact HV11.out.lt))
          have HV7 := Aside0.mk (HV5.out.below hb)
          have HX7 := Aside0.mk (HX6.out.below (by have := HV5.out.lt; have := HV5.out.ge; omega) hb)
          clear ho hb
          go_wp2_with fail
          go_ret
          refine ⟨_, vnil, rfl, ?_, ?_, HX7.out⟩
          · rw [HM.out, ← HY.out.1, ← HXX.out]; exact HO.out
          · rw [HM.out]; exact HV7.out
        · obtain ⟨W3, hW3⟩ : ∃ W3, W3 = ((w2.setCell ⟨w11.heap.size + 1, 0, none⟩ (.slice A1 (s.texts.length + 1) c1')).setCell ⟨w11.heap.size + 1, 1, none⟩ (.slice A2 s.lits.length c2')) := ⟨_, rfl⟩
          rw [← hW3]
          have hk3 : W3.heap[w11.heap.size + 1]? = some (.cells #[.slice A1 (s.texts.length + 1) c1', .slice A2 s.lits.length c2'] 37 (0, 0)) := by
            rw [hW3]
            have h0 : w2.heap[w11.heap.size + 1]? = some (Obj.cells #[.slice none 0 0, .slice none 0 0] 37 (0, 0)) := by
              refine (HB3.out.block _ (by simp only [World.size_alloc, World.size_drew]; omega)).trans ?_
              have h1 : ((w11.alloc (Obj.cells #[.string x] 9)).alloc (Obj.cells #[.slice none 0 0, .slice none 0 0] 37)).heap[(w11.alloc (Obj.cells #[.string x] 9)).heap.size]? = _ := blk_new _ _
              rw [World.size_alloc] at h1
              exact h1
            exact blk_set (blk_set h0 0 _) 1 _
          have hb5 : Below w11.heap.size w11 W3 := by rw [hW3]; exact below_setG (below_setG HB4.out (by omega)) (by omega)
          have HRB := Aside0.mk (show w11.heap.size ≤ w11.heap.size + 1 ∧ w11.heap.size + 1 < W3.heap.size from ⟨by omega, (Array.getElem?_eq_some_iff.1 hk3).1⟩)
          have HR3 := Aside0.mk (show SRow W3 w11.heap.size (.slice A1 (s.texts.length + 1) c1') (s.texts ++ [x]) ∧ SRow W3 w11.heap.size (.slice A2 s.lits.length c2') s.lits from by rw [hW3]; exact ⟨Kd.R_lower (SRow.setNe (SRow.setNe HR1.out (by simp only [World.size_alloc, World.size_drew]; omega) _ _) (by simp only [World.size_alloc, World.size_drew]; omega) _ _) (by simp only [World.size_alloc, World.size_drew]; omega), Kd.R_lower (SRow.setNe (SRow.setNe HR2.out (by simp only [World.size_alloc, World.size_drew]; omega) _ _) (by simp only [World.size_alloc, World.size_drew]; omega) _ _) (by simp only [World.size_alloc, World.size_drew]; omega)⟩)
          have HV3 := Aside0.mk (HV11.out.below hb5)
          have HX3 := Aside0.mk (HX11.out.below (by have := HV11.out.lt; have := HV11.out.ge; omega) hb5)
          clear hb5 hW3 k2 k3 k4 k5
          have HRB0 := Aside0.mk HRB.out
          obtain ⟨rB, hrB⟩ : ∃ rB, rB = w11.heap.size + 1 := ⟨_, rfl⟩
          rw [← hrB] at hk3 ⊢
          replace HRB := Aside0.mk (show w11.heap.size ≤ rB ∧ rB < W3.heap.size by rw [hrB]; exact HRB0.out)
          clear hrB HRB0
          go_wp2_with fail
          refine (begin_ok N0 g W3 V1 _ HV3.out).mono ?_
          rintro e w4 ⟨rfl, hw4, hx4⟩
          have hfb : ∀ k, w11.heap.size ≤ k → ¬ FB g V1 k := fun k hk hf => by have := HV11.out.fb_lt k hf; omega
          have hk4 := (hx4.kept.2 rB HRB.out.2 (hfb rB HRB.out.1)).trans hk3
          have HR4 := Aside0.mk (And.intro (SRow.kept HR3.out.1 hx4.kept hfb) (SRow.kept HR3.out.2 hx4.kept hfb))
          have HV4 := Aside0.mk hw4
          have HX4 := Aside0.mk (HX3.out.trans hx4)
          have HS4 := Aside0.mk (show w11.heap.size ≤ w4.heap.size ∧ g < w11.heap.size from ⟨by have := hx4.kept.1; have := HRB.out; omega, HV11.out.lt⟩)
          clear hw4 hx4 hfb hk3
          obtain ⟨⟨_, _, _, _, e4, e5, e6⟩, _, _, _, _, f4, f5, f6⟩ := HV4.out.all
          have HK4 := Aside0.mk hk4
          clear hk4
          go_upto_region 13 with fail
          have HV5 := Aside0.mk (show FW N0 ((w4.setCell ⟨g, 6, none⟩ (.bool true)).setCell ⟨g, 4, none⟩ (.func (.func 31) #[.pointer (some ⟨g, 0, none⟩)] #[])) g vnil { beginS s with skip := true, md := .skipLine } from HV4.out.put (fun k hk => by rw [set_ne hk, set_ne hk]) (blk_set (blk_set HV4.out.blk 6 _) 4 _) (.inl ⟨rfl, rfl⟩) (.inl ⟨rfl, rfl⟩) (.inl ⟨rfl, rfl⟩))
          have HX5 := Aside0.mk (((FX.refl N0 g w4 vnil).set HV4.out 6 (.bool true)).set HV4.out 4 (.func (.func 31) #[.pointer (some ⟨g, 0, none⟩)] #[]))
          generalize ((w4.setCell ⟨g, 6, none⟩ (.bool true)).setCell ⟨g, 4, none⟩ (.func (.func 31) #[.pointer (some ⟨g, 0, none⟩)] #[])) = w5 at HV5 HX5 ⊢
          clear e4 e5 e6 f4 f5 f6
          have hfb : ∀ k, w11.heap.size ≤ k → ¬ FB g vnil k := fun k hk hf => by rw [FB_nil g k hf] at hk; have := HS4.out.2; omega
          have hk6 := (HX5.out.kept.2 rB (Array.getElem?_eq_some_iff.1 HK4.out).1 (hfb rB HRB.out.1)).trans HK4.out
          have d0 := (blk_cell hk6 0).trans (show _ = some (Value.slice A1 (s.texts.length + 1) c1') from rfl)
          have d1 := (blk_cell hk6 1).trans (show _ = some (Value.slice A2 s.lits.length c2') from rfl)
          have HR6 := Aside0.mk (And.intro (SRow.kept HR4.out.1 HX5.out.kept hfb) (SRow.kept HR4.out.2 HX5.out.kept hfb))
          have HX6 := Aside0.mk (HX4.out.trans HX5.out)
          have HS6 := Aside0.mk (show w11.heap.size ≤ w5.heap.size by have := HX5.out.kept.1; have := HS4.out; omega)
          clear hfb hk6
          go_wp2_with fail
          refine (one_ok 3 A1 A2 _ _ c1' c2' (s.texts ++ [x]) s.lits w11.heap.size _ HR6.out.1 HR6.out.2 HS6.out).mono ?_
          rintro e w7 ⟨A7, c7, rfl, ho, hb⟩
          have HO := Aside0.mk (EN.of_new (g := g) (V := vnil) ho (show w.heap.size ≤ w11.heap.size from HX11.out.kept.1) (fun k hk => by rw [FB_nil g k hk]; exact HV11.out.lt))
          have HV7 := Aside0.mk (HV5.out.below hb)
          have HX7 := Aside0.mk (HX6.out.below (by have := HV5.out.lt; have := HV5.out.ge; omega) hb)
          clear ho hb
          go_wp2_with fail
          go_ret
          refine ⟨_, vnil, rfl, ?_, ?_, HX7.out⟩
          · rw [HM.out, ← HY.out.1, ← HXX.out]; exact HO.out
          · rw [HM.out]; exact HV7.out
        · obtain ⟨W3, hW3⟩ : ∃ W3, W3 = ((w2.setCell ⟨w11.heap.size, 0, none⟩ (.slice A1 (s.texts.length + 1) c1')).setCell ⟨w11.heap.size, 1, none⟩ (.slice A2 s.lits.length c2')) := ⟨_, rfl⟩
          rw [← hW3]
          have hk3 : W3.heap[w11.heap.size]? = some (.cells #[.slice A1 (s.texts.length + 1) c1', .slice A2 s.lits.length c2'] 37 (0, 0)) := by
            rw [hW3]
            have h0 : w2.heap[w11.heap.size]? = some (Obj.cells #[.slice none 0 0, .slice none 0 0] 37 (0, 0)) := by
              refine (HB3.out.block _ (by simp only [World.size_alloc, World.size_drew]; omega)).trans ?_
              refine (Below.heap_alloc _ _ _ (by simp only [World.size_alloc]; omega)).trans ?_
              exact blk_new _ _
            exact blk_set (blk_set h0 0 _) 1 _
          have hb5 : Below w11.heap.size w11 W3 := by rw [hW3]; exact below_setG (below_setG HB4.out (by omega)) (by omega)
          have HRB := Aside0.mk (show w11.heap.size ≤ w11.heap.size ∧ w11.heap.size < W3.heap.size from ⟨Nat.le_refl _, (Array.getElem?_eq_some_iff.1 hk3).1⟩)
          have HR3 := Aside0.mk (show SRow W3 w11.heap.size (.slice A1 (s.texts.length + 1) c1') (s.texts ++ [x]) ∧ SRow W3 w11.heap.size (.slice A2 s.lits.length c2') s.lits from by rw [hW3]; exact ⟨Kd.R_lower (SRow.setNe (SRow.setNe HR1.out (by simp only [World.size_alloc, World.size_drew]; omega) _ _) (by simp only [World.size_alloc, World.size_drew]; omega) _ _) (by simp only [World.size_alloc, World.size_drew]; omega), Kd.R_lower (SRow.setNe (SRow.setNe HR2.out (by simp only [World.size_alloc, World.size_drew]; omega) _ _) (by simp only [World.size_alloc, World.size_drew]; omega) _ _) (by simp only [World.size_alloc, World.size_drew]; omega)⟩)
          have HV3 := Aside0.mk (HV11.out.below hb5)
          have HX3 := Aside0.mk (HX11.out.below (by have := HV11.out.lt; have := HV11.out.ge; omega) hb5)
          clear hb5 hW3 k2 k3 k4 k5
          have HRB0 := Aside0.mk HRB.out
          obtain ⟨rB, hrB⟩ : ∃ rB, rB = w11.heap.size := ⟨_, rfl⟩
          rw [← hrB] at hk3 ⊢
          replace HRB := Aside0.mk (show w11.heap.size ≤ rB ∧ rB < W3.heap.size by rw [hrB]; exact HRB0.out)
          clear hrB HRB0
          go_wp2_with fail
          refine (begin_ok N0 g W3 V1 _ HV3.out).mono ?_
          rintro e w4 ⟨rfl, hw4, hx4⟩
          have hfb : ∀ k, w11.heap.size ≤ k → ¬ FB g V1 k := fun k hk hf => by have := HV11.out.fb_lt k hf; omega
          have hk4 := (hx4.kept.2 rB HRB.out.2 (hfb rB HRB.out.1)).trans hk3
          have HR4 := Aside0.mk (And.intro (SRow.kept HR3.out.1 hx4.kept hfb) (SRow.kept HR3.out.2 hx4.kept hfb))
          have HV4 := Aside0.mk hw4
          have HX4 := Aside0.mk (HX3.out.trans hx4)
          have HS4 := Aside0.mk (show w11.heap.size ≤ w4.heap.size ∧ g < w11.heap.size from ⟨by have := hx4.kept.1; have := HRB.out; omega, HV11.out.lt⟩)
          clear hw4 hx4 hfb hk3
          obtain ⟨⟨_, _, _, _, e4, e5, e6⟩, _, _, _, _, f4, f5, f6⟩ := HV4.out.all
          have HK4 := Aside0.mk hk4
          clear hk4
          go_upto_region 13 with fail
          have HV5 := Aside0.mk (show FW N0 ((w4.setCell ⟨g, 6, none⟩ (.bool true)).setCell ⟨g, 4, none⟩ (.func (.func 31) #[.pointer (some ⟨g, 0, none⟩)] #[])) g vnil { beginS s with skip := true, md := .skipLine } from HV4.out.put (fun k hk => by rw [set_ne hk, set_ne hk]) (blk_set (blk_set HV4.out.blk 6 _) 4 _) (.inl ⟨rfl, rfl⟩) (.inl ⟨rfl, rfl⟩) (.inl ⟨rfl, rfl⟩))
          have HX5 := Aside0.mk (((FX.refl N0 g w4 vnil).set HV4.out 6 (.bool true)).set HV4.out 4 (.func (.func 31) #[.pointer (some ⟨g, 0, none⟩)] #[]))
          generalize ((w4.setCell ⟨g, 6, none⟩ (.bool true)).setCell ⟨g, 4, none⟩ (.func (.func 31) #[.pointer (some ⟨g, 0, none⟩)] #[])) = w5 at HV5 HX5 ⊢
          clear e4 e5 e6 f4 f5 f6
          have hfb : ∀ k, w11.heap.size ≤ k → ¬ FB g vnil k := fun k hk hf => by rw [FB_nil g k hf] at hk; have := HS4.out.2; omega
          have hk6 := (HX5.out.kept.2 rB (Array.getElem?_eq_some_iff.1 HK4.out).1 (hfb rB HRB.out.1)).trans HK4.out
          have d0 := (blk_cell hk6 0).trans (show _ = some (Value.slice A1 (s.texts.length + 1) c1') from rfl)
          have d1 := (blk_cell hk6 1).trans (show _ = some (Value.slice A2 s.lits.length c2') from rfl)
          have HR6 := Aside0.mk (And.intro (SRow.kept HR4.out.1 HX5.out.kept hfb) (SRow.kept HR4.out.2 HX5.out.kept hfb))
          have HX6 := Aside0.mk (HX4.out.trans HX5.out)
          have HS6 := Aside0.mk (show w11.heap.size ≤ w5.heap.size by have := HX5.out.kept.1; have := HS4.out; omega)
          clear hfb hk6
          go_wp2_with fail
          refine (one_ok 3 A1 A2 _ _ c1' c2' (s.texts ++ [x]) s.lits w11.heap.size _ HR6.out.1 HR6.out.2 HS6.out).mono ?_
          rintro e w7 ⟨A7, c7, rfl, ho, hb⟩
          have HO := Aside0.mk (EN.of_new (g := g) (V := vnil) ho (show w.heap.size ≤ w11.heap.size from HX11.out.kept.1) (fun k hk => by rw [FB_nil g k hk]; exact HV11.out.lt))
          have HV7 := Aside0.mk (HV5.out.below hb)
          have HX7 := Aside0.mk (HX6.out.below (by have := HV5.out.lt; have := HV5.out.ge; omega) hb)
          clear ho hb
          go_wp2_with fail
          go_ret
          refine ⟨_, vnil, rfl, ?_, ?_, HX7.out⟩
          · rw [HM.out, ← HY.out.1, ← HXX.out]; exact HO.out
          · rw [HM.out]; exact HV7.out
    · have h13b : ((c.toNat : Int) == 13) = false := by
        rw [beq_eq_false_iff_ne]
        exact fun e => h13 (UInt8.toNat_inj.1 (by show c.toNat = 13; omega))
      have H13 := Aside0.mk h13
      clear h13
      by_cases hle : z ≤ 4000
      · have hleb := decide_eq_true hle
        have HM := Aside0.mk (show inLineS s c = ({ s with line := s.line ++ [c] }, []) by
          unfold inLineS
          rw [if_neg HZ.out, if_pos (by rw [if_neg H13.out]; have := HX.out; omega)])
        clear hle
        go_wp2_with fail
        go_ret
        refine ⟨_, _, rfl, ?_, ?_, HX11.out⟩
        · rw [HM.out]; exact Kd.N_nil _ _ _ _ _
        · rw [HM.out]; exact HV11.out
      · have hleb := decide_eq_false hle
        have HM := Aside0.mk (show inLineS s c = ({ beginS s with skip := true, md := .skipLine }, [evt 3 (s.texts ++ [str ((s.line ++ [c]).take (4000 - s.size).toNat)]) s.lits]) by
          unfold inLineS
          rw [if_neg HZ.out, if_neg (by rw [if_neg H13.out]; have := HX.out; omega)])
        have HGT := Aside0.mk (show 4000 < s.size + (s.line.length : Int) + 1 by have := HX.out; omega)
        clear hle
        obtain ⟨y, hy⟩ : ∃ y, wrap64 (4000 - s.size) = y := ⟨_, rfl⟩
        have hyw : IntKind.i64.wrap (4000 - s.size) = y := (i64_w _).trans hy
        have HY := Aside0.mk (show y = 4000 - s.size ∧ y.toNat ≤ (s.line ++ [c]).length ∧ m9 ≤ c9 by
          have := HSZ.out; have := HGT.out
          have e : y = 4000 - s.size := by rw [← hy]; unfold wrap64; omega
          have h2 := HV11.out.rb
          rw [HVB.out, HM9.out] at h2
          have := (Kd.R_reads' h2).2.1
          rw [← HM9.out] at this
          exact ⟨e, by rw [List.length_append, List.length_singleton]; omega, this⟩)
        clear hy
        have p1 := eq_true (show 0 ≤ y by have := HY.out; have := HSZ.out; omega)
        have p2 := eq_true (show y ≤ (c9 : Int) by have := HY.out; have := HX.out; have := HGT.out; have := HSZ.out; omega)
        obtain ⟨x, hx⟩ : ∃ x, x = str ((s.line ++ [c]).take y.toNat) := ⟨_, rfl⟩
        have HXX := Aside0.mk hx
        have HK := Aside0.mk (fun (W : World) (hb : Below w11.heap.size w11 W) => (by
          have hw := (HV11.out.below hb)
          have ha := hw.all.1
          refine ⟨by have := ha.2.2.1; rwa [HVB.out] at this, ha.2.2.2.1, ?_, ⟨hb⟩⟩
          have h2 := hw.rb
          rw [HVB.out, HM9.out] at h2
          rw [hx]
          exact conv_take h2 HY.out.2.1 : W.cell? ⟨g, 2, none⟩ = some (.slice A9 m9 c9) ∧ W.cell? ⟨g, 3, none⟩ = some (.int .i64 s.size) ∧ (convert 31 9 (.slice A9 y.toNat c9)).run Tryd.prog W = .ok (.string x) W ∧ Aside0 (Below w11.heap.size w11 W)))
        clear hx
        obtain ⟨k2, k3, k4, k5⟩ := HK.out w11 (Below.refl _ _)
        go_wp2_with fail
        go_region_held3 (fun W => W.cell? ⟨g, 2, none⟩ = some (.slice A9 m9 c9) ∧ W.cell? ⟨g, 3, none⟩ = some (.int .i64 s.size) ∧ (convert 31 9 (.slice A9 y.toNat c9)).run Tryd.prog W = .ok (.string x) W ∧ Aside0 (Below w11.heap.size w11 W)) (first | exact hHeld | (refine HK.out _ ?_; first | (with_reducible assumption) | (with_reducible exact Below.refl _ _) | ((repeat (first | (with_reducible exact hHeld.2.2.2.out) | (with_reducible first | exact Below.refl _ _ | assumption | apply below_alloc | apply pw_below_drewN | apply below_drew1 | (refine below_setG ?_ (by omega))))); done))) (first | (go_at_call 30; refine (raw_ok N0 g _ V1 _ _ 1 x (HV11.out.below (by repeat (first | exact hHeld.2.2.2.out | (with_reducible first | exact Below.refl _ _ | apply below_alloc | apply pw_below_drewN | apply below_drew1)))) (by (with_reducible repeat (first | (refine C_one' _ _ ?_; simp only [World.size_alloc, World.size_drew]; done) | apply Kd.C_alloc | apply Kd.C_drewN | apply Kd.C_drew))) (by have := HT.out; dsimp only; omega) (by have := HLL.out; dsimp only; omega)).mono ?_; rintro e w2 ⟨A1, A2, c1', c2', rfl, hr1, hr2, hb3⟩; have HR1 := Aside0.mk hr1; have HR2 := Aside0.mk hr2; have hb4 : Below w11.heap.size w11 w2 := Below.trans (by repeat (first | exact hHeld.2.2.2.out | (with_reducible first | exact Below.refl _ _ | apply below_alloc | apply pw_below_drewN | apply below_drew1))) (hb3.mono (below_size (by repeat (first | exact hHeld.2.2.2.out | (with_reducible first | exact Below.refl _ _ | apply below_alloc | apply pw_below_drewN | apply below_drew1))))); have HB4 := Aside0.mk hb4; try have q0 := hb3.cell (p := ⟨w11.heap.size, 0, none⟩) (by simp only [World.size_alloc, World.size_drew]; omega); try have q1 := hb3.cell (p := ⟨w11.heap.size, 1, none⟩) (by simp only [World.size_alloc, World.size_drew]; omega); try have q2 := hb3.cell (p := ⟨w11.heap.size + 1, 0, none⟩) (by simp only [World.size_alloc, World.size_drew]; omega); try have q3 := hb3.cell (p := ⟨w11.heap.size + 1, 1, none⟩) (by simp only [World.size_alloc, World.size_drew]; omega); try have r0 := hb3.frozen (p := ⟨w11.heap.size, 0, none⟩) (by simp only [World.size_alloc, World.size_drew]; omega); try have r1 := hb3.frozen (p := ⟨w11.heap.size, 1, none⟩) (by simp only [World.size_alloc, World.size_drew]; omega); try have r2 := hb3.frozen (p := ⟨w11.heap.size + 1, 0, none⟩) (by simp only [World.size_alloc, World.size_drew]; omega); try have r3 := hb3.frozen (p := ⟨w11.heap.size + 1, 1, none⟩) (by simp only [World.size_alloc, World.size_drew]; omega); have HB3 := Aside0.mk hb3; clear hr1 hr2 hb3))
        all_goals try clear q0 q1
        all_goals try clear q2 q3
        all_goals try clear r0 r1
        all_goals try clear r2 r3
        all_goals clear hb4 p1 p2
        · obtain ⟨W3, hW3⟩ : ∃ W3, W3 = (w2.alloc (.cells #[.slice A1 (s.texts.length + 1) c1', .slice A2 s.lits.length c2'] 37)) := ⟨_, rfl⟩
          rw [← hW3]
          have hk3 : W3.heap[w2.heap.size]? = some (.cells #[.slice A1 (s.texts.length + 1) c1', .slice A2 s.lits.length c2'] 37 (0, 0)) := by
            rw [hW3]
            exact blk_new _ _
          have hb5 : Below w11.heap.size w11 W3 := by rw [hW3]; exact HB4.out.trans ((below_alloc (Below.refl _ _) _).mono HB4.out.size)
          have HRB := Aside0.mk (show w11.heap.size ≤ w2.heap.size ∧ w2.heap.size < W3.heap.size from ⟨HB4.out.size, (Array.getElem?_eq_some_iff.1 hk3).1⟩)
          have HR3 := Aside0.mk (show SRow W3 w11.heap.size (.slice A1 (s.texts.length + 1) c1') (s.texts ++ [x]) ∧ SRow W3 w11.heap.size (.slice A2 s.lits.length c2') s.lits from by rw [hW3]; exact ⟨Kd.R_lower (Kd.R_below HR1.out (below_alloc (Below.refl _ _) _)) (by simp only [World.size_alloc, World.size_drew]; omega), Kd.R_lower (Kd.R_below HR2.out (below_alloc (Below.refl _ _) _)) (by simp only [World.size_alloc, World.size_drew]; omega)⟩)
          have HV3 := Aside0.mk (HV11.out.below hb5)
          have HX3 := Aside0.mk (HX11.out.below (by have := HV11.out.lt; have := HV11.out.ge; omega) hb5)
          clear hb5 hW3 k2 k3 k4 k5
          have HRB0 := Aside0.mk HRB.out
          obtain ⟨rB, hrB⟩ : ∃ rB, rB = w2.heap.size := ⟨_, rfl⟩
          rw [← hrB] at hk3 ⊢
          replace HRB := Aside0.mk (show w11.heap.size ≤ rB ∧ rB < W3.heap.size by rw [hrB]; exact HRB0.out)
          clear hrB HRB0
          go_wp2_with fail
          refine (begin_ok N0 g W3 V1 _ HV3.out).mono ?_
          rintro e w4 ⟨rfl, hw4, hx4⟩
          have hfb : ∀ k, w11.heap.size ≤ k → ¬ FB g V1 k := fun k hk hf => by have := HV11.out.fb_lt k hf; omega
          have hk4 := (hx4.kept.2 rB HRB.out.2 (hfb rB HRB.out.1)).trans hk3
          have HR4 := Aside0.mk (And.intro (SRow.kept HR3.out.1 hx4.kept hfb) (SRow.kept HR3.out.2 hx4.kept hfb))
          have HV4 := Aside0.mk hw4
          have HX4 := Aside0.mk (HX3.out.trans hx4)
          have HS4 := Aside0.mk (show w11.heap.size ≤ w4.heap.size ∧ g < w11.heap.size from ⟨by have := hx4.kept.1; have := HRB.out; omega, HV11.out.lt⟩)
          clear hw4 hx4 hfb hk3
          obtain ⟨⟨_, _, _, _, e4, e5, e6⟩, _, _, _, _, f4, f5, f6⟩ := HV4.out.all
          have HK4 := Aside0.mk hk4
          clear hk4
          go_upto_region 13 with fail
          have HV5 := Aside0.mk (show FW N0 ((w4.setCell ⟨g, 6, none⟩ (.bool true)).setCell ⟨g, 4, none⟩ (.func (.func 31) #[.pointer (some ⟨g, 0, none⟩)] #[])) g vnil { beginS s with skip := true, md := .skipLine } from HV4.out.put (fun k hk => by rw [set_ne hk, set_ne hk]) (blk_set (blk_set HV4.out.blk 6 _) 4 _) (.inl ⟨rfl, rfl⟩) (.inl ⟨rfl, rfl⟩) (.inl ⟨rfl, rfl⟩))
          have HX5 := Aside0.mk (((FX.refl N0 g w4 vnil).set HV4.out 6 (.bool true)).set HV4.out 4 (.func (.func 31) #[.pointer (some ⟨g, 0, none⟩)] #[]))
          generalize ((w4.setCell ⟨g, 6, none⟩ (.bool true)).setCell ⟨g, 4, none⟩ (.func (.func 31) #[.pointer (some ⟨g, 0, none⟩)] #[])) = w5 at HV5 HX5 ⊢
          clear e4 e5 e6 f4 f5 f6
          have hfb : ∀ k, w11.heap.size ≤ k → ¬ FB g vnil k := fun k hk hf => by rw [FB_nil g k hf] at hk; have := HS4.out.2; omega
          have hk6 := (HX5.out.kept.2 rB (Array.getElem?_eq_some_iff.1 HK4.out).1 (hfb rB HRB.out.1)).trans HK4.out
          have d0 := (blk_cell hk6 0).trans (show _ = some (Value.slice A1 (s.texts.length + 1) c1') from rfl)
          have d1 := (blk_cell hk6 1).trans (show _ = some (Value.slice A2 s.lits.length c2') from rfl)
          have HR6 := Aside0.mk (And.intro (SRow.kept HR4.out.1 HX5.out.kept hfb) (SRow.kept HR4.out.2 HX5.out.kept hfb))
          have HX6 := Aside0.mk (HX4.out.trans HX5.out)
          have HS6 := Aside0.mk (show w11.heap.size ≤ w5.heap.size by have := HX5.out.kept.1; have := HS4.out; omega)
          clear hfb hk6
          go_wp2_with fail
          refine (one_ok 3 A1 A2 _ _ c1' c2' (s.texts ++ [x]) s.lits w11.heap.size _ HR6.out.1 HR6.out.2 HS6.out).mono ?_
          rintro e w7 ⟨A7, c7, rfl, ho, hb⟩
          have HO := Aside0.mk (EN.of_new (g := g) (V := vnil) ho (show w.heap.size ≤ w11.heap.size from HX11.out.kept.1) (fun k hk => by rw [FB_nil g k hk]; exact HV11.out.lt))
          have HV7 := Aside0.mk (HV5.out.below hb)
          have HX7 := Aside0.mk (HX6.out.below (by have := HV5.out.lt; have := HV5.out.ge; omega) hb)
          clear ho hb
          go_wp2_with fail
          go_ret
          refine ⟨_, vnil, rfl, ?_, ?_, HX7.out⟩
          · rw [HM.out, ← HY.out.1, ← HXX.out]; exact HO.out
          · rw [HM.out]; exact HV7.out
        · obtain ⟨W3, hW3⟩ : ∃ W3, W3 = ((w2.setCell ⟨w11.heap.size + 1, 0, none⟩ (.slice A1 (s.texts.length + 1) c1')).setCell ⟨w11.heap.size + 1, 1, none⟩ (.slice A2 s.lits.length c2')) := ⟨_, rfl⟩
          rw [← hW3]
          have hk3 : W3.heap[w11.heap.size + 1]? = some (.cells #[.slice A1 (s.texts.length + 1) c1', .slice A2 s.lits.length c2'] 37 (0, 0)) := by
            rw [hW3]
            have h0 : w2.heap[w11.heap.size + 1]? = some (Obj.cells #[.slice none 0 0, .slice none 0 0] 37 (0, 0)) := by
              refine (HB3.out.block _ (by simp only [World.size_alloc, World.size_drew]; omega)).trans ?_
              have h1 : ((w11.alloc (Obj.cells #[.string x] 9)).alloc (Obj.cells #[.slice none 0 0, .slice none 0 0] 37)).heap[(w11.alloc (Obj.cells #[.string x] 9)).heap.size]? = _ := blk_new _ _
              rw [World.size_alloc] at h1
              exact h1
            exact blk_set (blk_set h0 0 _) 1 _
          have hb5 : Below w11.heap.size w11 W3 := by rw [hW3]; exact below_setG (below_setG HB4.out (by omega)) (by omega)
          have HRB := Aside0.mk (show w11.heap.size ≤ w11.heap.size + 1 ∧ w11.heap.size + 1 < W3.heap.size from ⟨by omega, (Array.getElem?_eq_some_iff.1 hk3).1⟩)
          have HR3 := Aside0.mk (show SRow W3 w11.heap.size (.slice A1 (s.texts.length + 1) c1') (s.texts ++ [x]) ∧ SRow W3 w11.heap.size (.slice A2 s.lits.length c2') s.lits from by rw [hW3]; exact ⟨Kd.R_lower (SRow.setNe (SRow.setNe HR1.out (by simp only [World.size_alloc, World.size_drew]; omega) _ _) (by simp only [World.size_alloc, World.size_drew]; omega) _ _) (by simp only [World.size_alloc, World.size_drew]; omega), Kd.R_lower (SRow.setNe (SRow.setNe HR2.out (by simp only [World.size_alloc, World.size_drew]; omega) _ _) (by simp only [World.size_alloc, World.size_drew]; omega) _ _) (by simp only [World.size_alloc, World.size_drew]; omega)⟩)
          have HV3 := Aside0.mk (HV11.out.below hb5)
          have HX3 := Aside0.mk (HX11.out.below (by have := HV11.out.lt; have := HV11.out.ge; omega) hb5)
          clear hb5 hW3 k2 k3 k4 k5
          have HRB0 := Aside0.mk HRB.out
          obtain ⟨rB, hrB⟩ : ∃ rB, rB = w11.heap.size + 1 := ⟨_, rfl⟩
          rw [← hrB] at hk3 ⊢
          replace HRB := Aside0.mk (show w11.heap.size ≤ rB ∧ rB < W3.heap.size by rw [hrB]; exact HRB0.out)
          clear hrB HRB0
          go_wp2_with fail
          refine (begin_ok N0 g W3 V1 _ HV3.out).mono ?_
          rintro e w4 ⟨rfl, hw4, hx4⟩
          have hfb : ∀ k, w11.heap.size ≤ k → ¬ FB g V1 k := fun k hk hf => by have := HV11.out.fb_lt k hf; omega
          have hk4 := (hx4.kept.2 rB HRB.out.2 (hfb rB HRB.out.1)).trans hk3
          have HR4 := Aside0.mk (And.intro (SRow.kept HR3.out.1 hx4.kept hfb) (SRow.kept HR3.out.2 hx4.kept hfb))
          have HV4 := Aside0.mk hw4
          have HX4 := Aside0.mk (HX3.out.trans hx4)
          have HS4 := Aside0.mk (show w11.heap.size ≤ w4.heap.size ∧ g < w11.heap.size from ⟨by have := hx4.kept.1; have := HRB.out; omega, HV11.out.lt⟩)
          clear hw4 hx4 hfb hk3
          obtain ⟨⟨_, _, _, _, e4, e5, e6⟩, _, _, _, _, f4, f5, f6⟩ := HV4.out.all
          have HK4 := Aside0.mk hk4
          clear hk4
          go_upto_region 13 with fail
          have HV5 := Aside0.mk (show FW N0 ((w4.setCell ⟨g, 6, none⟩ (.bool true)).setCell ⟨g, 4, none⟩ (.func (.func 31) #[.pointer (some ⟨g, 0, none⟩)] #[])) g vnil { beginS s with skip := true, md := .skipLine } from HV4.out.put (fun k hk => by rw [set_ne hk, set_ne hk]) (blk_set (blk_set HV4.out.blk 6 _) 4 _) (.inl ⟨rfl, rfl⟩) (.inl ⟨rfl, rfl⟩) (.inl ⟨rfl, rfl⟩))
          have HX5 := Aside0.mk (((FX.refl N0 g w4 vnil).set HV4.out 6 (.bool true)).set HV4.out 4 (.func (.func 31) #[.pointer (some ⟨g, 0, none⟩)] #[]))
          generalize ((w4.setCell ⟨g, 6, none⟩ (.bool true)).setCell ⟨g, 4, none⟩ (.func (.func 31) #[.pointer (some ⟨g, 0, none⟩)] #[])) = w5 at HV5 HX5 ⊢
          clear e4 e5 e6 f4 f5 f6
          have hfb : ∀ k, w11.heap.size ≤ k → ¬ FB g vnil k := fun k hk hf => by rw [FB_nil g k hf] at hk; have := HS4.out.2; omega
          have hk6 := (HX5.out.kept.2 rB (Array.getElem?_eq_some_iff.1 HK4.out).1 (hfb rB HRB.out.1)).trans HK4.out
          have d0 := (blk_cell hk6 0).trans (show _ = some (Value.slice A1 (s.texts.length + 1) c1') from rfl)
          have d1 := (blk_cell hk6 1).trans (show _ = some (Value.slice A2 s.lits.length c2') from rfl)
          have HR6 := Aside0.mk (And.intro (SRow.kept HR4.out.1 HX5.out.kept hfb) (SRow.kept HR4.out.2 HX5.out.kept hfb))
          have HX6 := Aside0.mk (HX4.out.trans HX5.out)
          have HS6 := Aside0.mk (show w11.heap.size ≤ w5.heap.size by have := HX5.out.kept.1; have := HS4.out; omega)
          clear hfb hk6
          go_wp2_with fail
          refine (one_ok 3 A1 A2 _ _ c1' c2' (s.texts ++ [x]) s.lits w11.heap.size _ HR6.out.1 HR6.out.2 HS6.out).mono ?_
          rintro e w7 ⟨A7, c7, rfl, ho, hb⟩
          have HO := Aside0.mk (EN.of_new (g := g) (V := vnil) ho (show w.heap.size ≤ w11.heap.size from HX11.out.kept.1) (fun k hk => by rw [FB_nil g k hk]; exact HV11.out.lt))
          have HV7 := Aside0.mk (HV5.out.below hb)
          have HX7 := Aside0.mk (HX6.out.below (by have := HV5.out.lt; have := HV5.out.ge; omega) hb)
          clear ho hb
          go_wp2_with fail
          go_ret
          refine ⟨_, vnil, rfl, ?_, ?_, HX7.out⟩
          · rw [HM.out, ← HY.out.1, ← HXX.out]; exact HO.out
          · rw [HM.out]; exact HV7.out
        · obtain ⟨W3, hW3⟩ : ∃ W3, W3 = ((w2.setCell ⟨w11.heap.size, 0, none⟩ (.slice A1 (s.texts.length + 1) c1')).setCell ⟨w11.heap.size, 1, none⟩ (.slice A2 s.lits.length c2')) := ⟨_, rfl⟩
          rw [← hW3]
          have hk3 : W3.heap[w11.heap.size]? = some (.cells #[.slice A1 (s.texts.length + 1) c1', .slice A2 s.lits.length c2'] 37 (0, 0)) := by
            rw [hW3]
            have h0 : w2.heap[w11.heap.size]? = some (Obj.cells #[.slice none 0 0, .slice none 0 0] 37 (0, 0)) := by
              refine (HB3.out.block _ (by simp only [World.size_alloc, World.size_drew]; omega)).trans ?_
              refine (Below.heap_alloc _ _ _ (by simp only [World.size_alloc]; omega)).trans ?_
              exact blk_new _ _
            exact blk_set (blk_set h0 0 _) 1 _
          have hb5 : Below w11.heap.size w11 W3 := by rw [hW3]; exact below_setG (below_setG HB4.out (by omega)) (by omega)
          have HRB := Aside0.mk (show w11.heap.size ≤ w11.heap.size ∧ w11.heap.size < W3.heap.size from ⟨Nat.le_refl _, (Array.getElem?_eq_some_iff.1 hk3).1⟩)
          have HR3 := Aside0.mk (show SRow W3 w11.heap.size (.slice A1 (s.texts.length + 1) c1') (s.texts ++ [x]) ∧ SRow W3 w11.heap.size (.slice A2 s.lits.length c2') s.lits from by rw [hW3]; exact ⟨Kd.R_lower (SRow.setNe (SRow.setNe HR1.out (by simp only [World.size_alloc, World.size_drew]; omega) _ _) (by simp only [World.size_alloc, World.size_drew]; omega) _ _) (by simp only [World.size_alloc, World.size_drew]; omega), Kd.R_lower (SRow.setNe (SRow.setNe HR2.out (by simp only [World.size_alloc, World.size_drew]; omega) _ _) (by simp only [World.size_alloc, World.size_drew]; omega) _ _) (by simp only [World.size_alloc, World.size_drew]; omega)⟩)
          have HV3 := Aside0.mk (HV11.out.below hb5)
          have HX3 := Aside0.mk (HX11.out.below (by have := HV11.out.lt; have := HV11.out.ge; omega) hb5)
          clear hb5 hW3 k2 k3 k4 k5
          have HRB0 := Aside0.mk HRB.out
          obtain ⟨rB, hrB⟩ : ∃ rB, rB = w11.heap.size := ⟨_, rfl⟩
          rw [← hrB] at hk3 ⊢
          replace HRB := Aside0.mk (show w11.heap.size ≤ rB ∧ rB < W3.heap.size by rw [hrB]; exact HRB0.out)
          clear hrB HRB0
          go_wp2_with fail
          refine (begin_ok N0 g W3 V1 _ HV3.out).mono ?_
          rintro e w4 ⟨rfl, hw4, hx4⟩
          have hfb : ∀ k, w11.heap.size ≤ k → ¬ FB g V1 k := fun k hk hf => by have := HV11.out.fb_lt k hf; omega
          have hk4 := (hx4.kept.2 rB HRB.out.2 (hfb rB HRB.out.1)).trans hk3
          have HR4 := Aside0.mk (And.intro (SRow.kept HR3.out.1 hx4.kept hfb) (SRow.kept HR3.out.2 hx4.kept hfb))
          have HV4 := Aside0.mk hw4
          have HX4 := Aside0.mk (HX3.out.trans hx4)
          have HS4 := Aside0.mk (show w11.heap.size ≤ w4.heap.size ∧ g < w11.heap.size from ⟨by have := hx4.kept.1; have := HRB.out; omega, HV11.out.lt⟩)
          clear hw4 hx4 hfb hk3
          obtain ⟨⟨_, _, _, _, e4, e5, e6⟩, _, _, _, _, f4, f5, f6⟩ := HV4.out.all
          have HK4 := Aside0.mk hk4
          clear hk4
          go_upto_region 13 with fail
          have HV5 := Aside0.mk (show FW N0 ((w4.setCell ⟨g, 6, none⟩ (.bool true)).setCell ⟨g, 4, none⟩ (.func (.func 31) #[.pointer (some ⟨g, 0, none⟩)] #[])) g vnil { beginS s with skip := true, md := .skipLine } from HV4.out.put (fun k hk => by rw [set_ne hk, set_ne hk]) (blk_set (blk_set HV4.out.blk 6 _) 4 _) (.inl ⟨rfl, rfl⟩) (.inl ⟨rfl, rfl⟩) (.inl ⟨rfl, rfl⟩))
          have HX5 := Aside0.mk (((FX.refl N0 g w4 vnil).set HV4.out 6 (.bool true)).set HV4.out 4 (.func (.func 31) #[.pointer (some ⟨g, 0, none⟩)] #[]))
          generalize ((w4.setCell ⟨g, 6, none⟩ (.bool true)).setCell ⟨g, 4, none⟩ (.func (.func 31) #[.pointer (some ⟨g, 0, none⟩)] #[])) = w5 at HV5 HX5 ⊢
          clear e4 e5 e6 f4 f5 f6
          have hfb : ∀ k, w11.heap.size ≤ k → ¬ FB g vnil k := fun k hk hf => by rw [FB_nil g k hf] at hk; have := HS4.out.2; omega
          have hk6 := (HX5.out.kept.2 rB (Array.getElem?_eq_some_iff.1 HK4.out).1 (hfb rB HRB.out.1)).trans HK4.out
          have d0 := (blk_cell hk6 0).trans (show _ = some (Value.slice A1 (s.texts.length + 1) c1') from rfl)
          have d1 := (blk_cell hk6 1).trans (show _ = some (Value.slice A2 s.lits.length c2') from rfl)
          have HR6 := Aside0.mk (And.intro (SRow.kept HR4.out.1 HX5.out.kept hfb) (SRow.kept HR4.out.2 HX5.out.kept hfb))
          have HX6 := Aside0.mk (HX4.out.trans HX5.out)
          have HS6 := Aside0.mk (show w11.heap.size ≤ w5.heap.size by have := HX5.out.kept.1; have := HS4.out; omega)
          clear hfb hk6
          go_wp2_with fail
          refine (one_ok 3 A1 A2 _ _ c1' c2' (s.texts ++ [x]) s.lits w11.heap.size _ HR6.out.1 HR6.out.2 HS6.out).mono ?_
          rintro e w7 ⟨A7, c7, rfl, ho, hb⟩
          have HO := Aside0.mk (EN.of_new (g := g) (V := vnil) ho (show w.heap.size ≤ w11.heap.size from HX11.out.kept.1) (fun k hk => by rw [FB_nil g k hk]; exact HV11.out.lt))
          have HV7 := Aside0.mk (HV5.out.below hb)
          have HX7 := Aside0.mk (HX6.out.below (by have := HV5.out.lt; have := HV5.out.ge; omega) hb)
          clear ho hb
          go_wp2_with fail
          go_ret
          refine ⟨_, vnil, rfl, ?_, ?_, HX7.out⟩
          · rw [HM.out, ← HY.out.1, ← HXX.out]; exact HO.out
          · rw [HM.out]; exact HV7.out
end Go.Proofs.YtakfdmhoooeejaaDoor.PP
