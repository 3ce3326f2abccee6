/- YtakfdmhoooeejaaDoorMyWireB, as far as WireEnds needs it (prune.py). -/
import Derived.Test.YtakfdmhoooeejaaDoorWireEndsMyWireA
import Derived.Deep.RegionHeldLaw
namespace Go.Proofs.YtakfdmhoooeejaaDoor.PP
open Go.RowKit Go.Proofs.YtakfdmhoooeejaaDoorW.PrintWords Go.Proofs.YtakfdmhoooeejaaDoorW.PrintLast Go.Proofs.YtakfdmhoooeejaaDoorW.PrintMore
open Go.Proofs.YtakfdmhoooeejaaDoor.My
set_option linter.unusedVariables false
set_option linter.unusedSimpArgs false
theorem infS : (Tryd.prog.info? 9).map (fun i => (i.zero, i.size, i.bytes)) = some (some (.string ⟨#[]⟩), 1, 16) := by kernel_rfl
theorem drewN0 (w : World) : w.drewN 0 = w := rfl
theorem conv_str {w : World} {N0 : Nat} {A : Option Addr} {c : Nat} {l : List UInt8} (h : BRow w N0 (.slice A (nb l).length c) l) (k : Nat) : (convert 31 9 (.slice A (nb l).length c)).run Tryd.prog (w.drewN k) = .ok (.string (str l)) (w.drewN k) := by
  have h1 := (Kd.R_reads' h).2.2
  have h2 := Kd.C_string (P := Tryd.prog) (c := c) Tryd.underlying31 Tryd.underlying5 Tryd.underlying9 (Kd.C_drewN h1 k)
  rw [h2]
  unfold nb
  rw [strOf_map]
  rfl
set_option maxHeartbeats 2000000 in
set_option maxRecDepth 100000 in
theorem ended_ok (N0 g : Nat) (w : World) (V : FV) (s : FS) (h : FW N0 w g V s) (hl : s.lits.length ≤ 1000000) :
    Calls Tryd.prog 39 #[.pointer (some ⟨g, 0, none⟩)] w fun e w' => e = .returned (.tuple #[]) ∧ ∃ V', FW N0 w' g V' (endedS s) ∧ FX N0 g w V w' V' := by
  obtain ⟨vt, vl, vb⟩ := V
  obtain ⟨At, ct, et⟩ := Kd.R_slice h.rl
  obtain ⟨Ab, cb, eb⟩ := Kd.R_slice h.rb
  dsimp only at et eb
  subst et eb
  have HV := Aside0.mk h
  have HL := Aside0.mk hl
  obtain ⟨⟨c0, c1, c2, c3, c4, c5, c6⟩, f0, f1, f2, f3, f4, f5, f6⟩ := h.all
  have hcv := fun k => conv_str h.rb k
  have hcv0 := hcv 0
  rw [drewN0] at hcv0
  have hcv1 : (convert 31 9 (.slice Ab (nb s.line).length cb)).run Tryd.prog w.drew = .ok (.string (str s.line)) w.drew := hcv 1
  have ha1 := fun (o : Obj) => (FW.below h (below_alloc (Below.refl _ _) o)).all.1.2.1
  have ha2 := fun (o : Obj) => (FW.below h (below_alloc (Below.refl _ _) o)).all.1.2.2.1
  dsimp only at ha1 ha2
  clear h hl
  go_enter Tryd.func39, Tryd.ntmps39
  by_cases hz : s.left = 0
  · have hzb : (s.left == 0) = true := beq_iff_eq.mpr hz
    have HZ := Aside0.mk hz
    clear hz
    go_wp2_with fail
    go_region_law (first | ((try rw [show (w.alloc (Obj.cells #[Value.string (str s.line)] 9)).drew = (w.drew).alloc (Obj.cells [Value.string (str s.line)].toArray 9) from rfl]); (refine Kd.R_append_step Kd.string (w0 := w) (W := w.drew) N0 (by rfl) (.tmp 12) (.tmp 19) 35 9 (.string ⟨#[]⟩) 16 rfl Tryd.underlying35 infS rfl (by decide) (by omega) (.slice At s.lits.length ct) s.lits (str s.line) [.string (str s.line)] (fun _ => True) (fun _ => False) ?aE ?aX ?aP (fun _ hk => hk.elim) (fun _ _ => trivial) ?aO ?aB ?aS ?aL ?_; (case aE => exact rfl); (case aX => exact rfl); (case aP => exact rfl); (case aO => exact (by with_reducible (repeat (first | apply Kd.R_drewN | apply Kd.R_drew)); exact HV.out.rl)); (case aB => exact (by with_reducible (repeat (first | apply pw_below_drewN | apply below_drew1)); exact Below.refl _ _)); (case aS => exact (by have := HV.out.lt; have := HV.out.ge; show N0 ≤ w.heap.size; omega)); (case aL => have := HL.out; omega); intro v9 w9 ho hb hg hat; obtain ⟨m9, hm9⟩ : ∃ m9, m9 = (s.lits ++ [str s.line]).length := ⟨_, rfl⟩; obtain ⟨A9, c9, e9⟩ := Kd.R_slice ho; rw [← hm9] at e9; subst e9; clear hm9; have hg9 : w.drew.grownBy w9 (Value.slice At s.lits.length ct).ownBlock := hg; have hb9 := FW.g1L (HV.out.below (show Below w.heap.size w w.drew from by with_reducible (repeat (apply below_drew1)); exact Below.refl _ _)) hg9; obtain ⟨⟨d0, d1, d2, d3, d4, d5, d6⟩, g0, g1, g2, g3, g4, g5, g6⟩ := fall hb9; dsimp only at d0 d1 d2; have HV2 := HV.out.below (show Below w.heap.size w w.drew from by with_reducible (repeat (apply below_drew1)); exact Below.refl _ _); have HV9 := Aside0.mk (HV2.appL hg9 hat ho); have HX9 := Aside0.mk (((FX.refl N0 g w _).below (by have := HV.out.lt; have := HV.out.ge; omega) (show Below w.heap.size w w.drew from by with_reducible (repeat (apply below_drew1)); exact Below.refl _ _)).appL HV2 hb hg9 hat); clear HV2 ho hb hg hat hg9 hb9)))
    all_goals go_wp2_with fail
    all_goals
      go_end0
      refine ⟨rfl, ⟨vt, _, .slice none 0 0⟩, ?_, (((HX9.out.set HV.out 2 _).set HV.out 4 _).val (.inl rfl) (.inl rfl) (.inr rfl))⟩
      unfold endedS
      rw [if_pos HZ.out]
      refine HV9.out.put (fun k hk => ?_) ?_ (.inl ⟨rfl, rfl⟩) (.inl ⟨rfl, rfl⟩) (.inr ⟨rfl, rfl⟩)
      · repeat rw [set_ne hk]
      · exact blk_set (blk_set HV9.out.blk 2 _) 4 _
  · have hzb : (s.left == 0) = false := beq_eq_false_iff_ne.mpr hz
    have HZ := Aside0.mk hz
    clear hz
    go_wp2_with fail
    go_end0
    refine ⟨rfl, _, ?_, FX.refl _ _ _ _⟩
    unfold endedS
    rw [if_neg HZ.out]
    exact HV.out
set_option maxHeartbeats 2000000 in
set_option maxRecDepth 100000 in
theorem skipped_ok (N0 g : Nat) (w : World) (V : FV) (s : FS) (h : FW N0 w g V s) :
    Calls Tryd.prog 37 #[.pointer (some ⟨g, 0, none⟩)] w fun e w' => e = .returned (.tuple #[]) ∧ FW N0 w' g V (skippedS s) ∧ FX N0 g w V w' V := by
  have HV := Aside0.mk h
  obtain ⟨⟨c0, c1, c2, c3, c4, c5, c6⟩, f0, f1, f2, f3, f4, f5, f6⟩ := h.all
  clear h
  go_enter Tryd.func37, Tryd.ntmps37
  by_cases hz : s.left = 0
  · have hzb : (s.left == 0) = true := beq_iff_eq.mpr hz
    have HZ := Aside0.mk hz
    clear hz
    go_wp2_with fail
    go_end0
    refine ⟨rfl, ?_, (FX.refl N0 g w V).set HV.out 4 _⟩
    unfold skippedS
    rw [if_pos HZ.out]
    refine HV.out.put (fun k hk => ?_) ?_ (.inl ⟨rfl, rfl⟩) (.inl ⟨rfl, rfl⟩) (.inl ⟨rfl, rfl⟩)
    · repeat rw [set_ne hk]
    · exact blk_set HV.out.blk 4 _
  · have hzb : (s.left == 0) = false := beq_eq_false_iff_ne.mpr hz
    have HZ := Aside0.mk hz
    clear hz
    go_wp2_with fail
    go_end0
    refine ⟨rfl, ?_, FX.refl _ _ _ _⟩
    unfold skippedS
    rw [if_neg HZ.out]
    exact HV.out
set_option maxHeartbeats 2000000 in
set_option maxRecDepth 100000 in
theorem skipLine_ok (N0 g : Nat) (w : World) (V : FV) (s : FS) (c : UInt8) (h : FW N0 w g V s) :
    Calls Tryd.prog 31 #[.pointer (some ⟨g, 0, none⟩), .int .u8 c.toNat] w fun e w' => e = .returned (.slice none 0 0) ∧ ∃ V', FW N0 w' g V' (skipLineS s c) ∧ FX N0 g w V w' V' := by
  have HV := Aside0.mk h
  clear h
  go_enter Tryd.func31, Tryd.ntmps31
  by_cases hz : c = 10
  · have hzb : ((c.toNat : Int) == 10) = true := by rw [hz]; rfl
    have HZ := Aside0.mk hz
    clear hz
    go_wp2_with fail
    refine (begin_ok N0 g _ V s HV.out).mono ?_
    rintro e w1 ⟨rfl, hw1, hx1⟩
    have HW1 := Aside0.mk hw1
    have HX1 := Aside0.mk hx1
    clear hw1 hx1
    go_wp2_with fail
    go_ret
    refine ⟨rfl, vnil, ?_, HX1.out⟩
    unfold skipLineS
    rw [if_pos HZ.out]
    exact HW1.out
  · have hzb : ((c.toNat : Int) == 10) = false := by
      rw [beq_eq_false_iff_ne]
      exact fun e => hz (UInt8.toNat_inj.1 (by show c.toNat = 10; omega))
    have HZ := Aside0.mk hz
    clear hz
    go_wp2_with fail
    go_ret
    refine ⟨rfl, V, ?_, FX.refl _ _ _ _⟩
    unfold skipLineS
    rw [if_neg HZ.out]
    exact HV.out
theorem wrap_sub1 {x : Int} (h : -9223372036854775808 < x ∧ x ≤ 9223372036854775807) : wrap64 (x - 1) = x - 1 := by unfold wrap64; omega
set_option maxHeartbeats 2000000 in
set_option maxRecDepth 100000 in
theorem skipLiteral_ok (N0 g : Nat) (w : World) (V : FV) (s : FS) (c : UInt8) (h : FW N0 w g V s) (hl : -9223372036854775808 < s.left ∧ s.left ≤ 9223372036854775807) :
    Calls Tryd.prog 36 #[.pointer (some ⟨g, 0, none⟩), .int .u8 c.toNat] w fun e w' => e = .returned (.slice none 0 0) ∧ ∃ V', FW N0 w' g V' (skipLitS s c) ∧ FX N0 g w V w' V' := by
  have HV := Aside0.mk h
  obtain ⟨⟨c0, c1, c2, c3, c4, c5, c6⟩, f0, f1, f2, f3, f4, f5, f6⟩ := h.all
  obtain ⟨x, hx⟩ : ∃ x, wrap64 (s.left - 1) = x := ⟨_, rfl⟩
  have hxw : IntKind.i64.wrap (s.left - 1) = x := (i64_w _).trans hx
  have HX := Aside0.mk (show x = s.left - 1 by rw [← hx]; exact wrap_sub1 hl)
  clear h hl
  go_enter Tryd.func36, Tryd.ntmps36
  go_wp2_with fail
  have HW1 := Aside0.mk (show FW N0 (w.setCell ⟨g, 5, none⟩ (.int .i64 x)) g V { s with left := x } from HV.out.put (fun k hk => set_ne hk) (blk_set HV.out.blk 5 _) (.inl ⟨rfl, rfl⟩) (.inl ⟨rfl, rfl⟩) (.inl ⟨rfl, rfl⟩))
  have HX1 := Aside0.mk ((FX.refl N0 g w V).set HV.out 5 (.int .i64 x))
  generalize w.setCell ⟨g, 5, none⟩ (.int .i64 x) = w1 at HW1 HX1 ⊢
  refine (skipped_ok N0 g _ V _ HW1.out).mono ?_
  rintro e w2 ⟨rfl, hw2, hx2⟩
  have HW2 := Aside0.mk hw2
  have HX2 := Aside0.mk (HX1.out.trans hx2)
  clear hw2 hx2 c0 c1 c2 c3 c4 c5 c6 f0 f1 f2 f3 f4 f5 f6
  go_wp2_with fail
  go_ret
  refine ⟨rfl, V, ?_, HX2.out⟩
  unfold skipLitS
  rw [← HX.out]
  exact HW2.out
theorem nb_app (l : List UInt8) (c : UInt8) : nb (l ++ [c]) = nb l ++ [(c.toNat : Int)] := by simp [nb]
theorem nb_len (l : List UInt8) : (nb l).length = l.length := by simp [nb]
set_option maxHeartbeats 2000000 in
set_option maxRecDepth 100000 in
theorem inLiteral_ok (N0 g : Nat) (w : World) (V : FV) (s : FS) (c : UInt8) (h : FW N0 w g V s) (hl : -9223372036854775808 < s.left ∧ s.left ≤ 9223372036854775807) (hb : s.line.length ≤ 1000000000) (hll : s.lits.length ≤ 1000000) :
    Calls Tryd.prog 38 #[.pointer (some ⟨g, 0, none⟩), .int .u8 c.toNat] w fun e w' => e = .returned (.slice none 0 0) ∧ ∃ V', FW N0 w' g V' (inLitS s c) ∧ FX N0 g w V w' V' := by
  obtain ⟨vt, vl, vb⟩ := V
  obtain ⟨Ab, cb, eb⟩ := Kd.R_slice h.rb
  dsimp only at eb
  subst eb
  have HV := Aside0.mk h
  have HBL := Aside0.mk hb
  have HLL := Aside0.mk hll
  obtain ⟨⟨c0, c1, c2, c3, c4, c5, c6⟩, f0, f1, f2, f3, f4, f5, f6⟩ := h.all
  dsimp only at c2
  obtain ⟨x, hx⟩ : ∃ x, wrap64 (s.left - 1) = x := ⟨_, rfl⟩
  have hxw : IntKind.i64.wrap (s.left - 1) = x := (i64_w _).trans hx
  have HX := Aside0.mk (show x = s.left - 1 by rw [← hx]; exact wrap_sub1 hl)
  clear h hl hb hll
  go_enter Tryd.func38, Tryd.ntmps38
  go_wp2_with (first | ((with_reducible refine gate_builtin (b := .append) (xs := #[.tmp 10, .tmp 12]) rfl ?_); (try (refine gate_guard (by rfl) ?_; dsimp only)); at_builtin; refine Kd.R_append (Kd.int .u8) (w0 := w) N0 rfl (.tmp 10) (.tmp 12) 31 5 (.int .u8 0) 1 rfl Tryd.underlying31 inf8 rfl (by decide) (by omega) (.slice Ab (nb s.line).length cb) (nb s.line) (c.toNat : Int) [.int .u8 c.toNat] (fun _ => True) (fun _ => False) rfl ?aX ?aP (fun _ hk => hk.elim) ?aF ?aO ?aB ?aS ?aL ?_; (case aX => exact rfl); (case aP => exact rfl); (case aF => exact (fun _ _ => trivial)); (case aO => exact HV.out.rb); (case aB => exact Below.refl _ _); (case aS => have := HV.out.lt; have := HV.out.ge; omega); (case aL => have := HBL.out; rw [nb_len]; omega); intro v9 w9 ho hb hg hat; rw [← nb_app] at ho; obtain ⟨m9, hm9⟩ : ∃ m9, m9 = (nb (s.line ++ [c])).length := ⟨_, rfl⟩; obtain ⟨A9, c9, e9⟩ := Kd.R_slice ho; rw [← hm9] at e9; subst e9; clear hm9; obtain ⟨⟨d0, d1, d2, d3, d4, d5, d6⟩, g0, g1, g2, g3, g4, g5, g6⟩ := fall (HV.out.g1B hg); dsimp only at d0 d1 d2; have HV9 := Aside0.mk (HV.out.appB hg hat ho); have HX9 := Aside0.mk ((FX.refl N0 g w _).appB HV.out hb hg hat); clear ho hb hg hat))
  have HW1 := Aside0.mk (show FW N0 ((w9.setCell ⟨g, 2, none⟩ (.slice A9 m9 c9)).setCell ⟨g, 5, none⟩ (.int .i64 x)) g ⟨vt, vl, .slice A9 m9 c9⟩ { s with line := s.line ++ [c], left := x } from HV9.out.put (fun k hk => set_ne hk) (blk_set HV9.out.blk 5 _) (.inl ⟨rfl, rfl⟩) (.inl ⟨rfl, rfl⟩) (.inl ⟨rfl, rfl⟩))
  have HX1 := Aside0.mk (HX9.out.set HV.out 5 (.int .i64 x))
  generalize (w9.setCell ⟨g, 2, none⟩ (.slice A9 m9 c9)).setCell ⟨g, 5, none⟩ (.int .i64 x) = w1 at HW1 HX1 ⊢
  clear c0 c1 c2 c3 c4 c5 c6 f0 f1 f2 f3 f4 f5 f6 d0 d1 d2 d3 d4 d5 d6 g0 g1 g2 g3 g4 g5 g6
  refine (ended_ok N0 g _ _ _ HW1.out HLL.out).mono ?_
  rintro e w2 ⟨rfl, V2, hw2, hx2⟩
  have HW2 := Aside0.mk hw2
  have HX2 := Aside0.mk (HX1.out.trans hx2)
  clear hw2 hx2
  go_wp2_with fail
  go_ret
  refine ⟨rfl, V2, ?_, HX2.out⟩
  unfold inLitS
  rw [← HX.out]
  exact HW2.out
end Go.Proofs.YtakfdmhoooeejaaDoor.PP
