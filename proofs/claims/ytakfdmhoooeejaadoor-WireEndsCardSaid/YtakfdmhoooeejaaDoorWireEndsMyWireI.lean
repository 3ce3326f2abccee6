/- YtakfdmhoooeejaaDoorMyWireI, as far as WireEnds needs it (prune.py). -/
import Derived.Test.YtakfdmhoooeejaaDoorWireEndsMyWireH
namespace Go.Proofs.YtakfdmhoooeejaaDoor.PP
open Go.RowKit Go.Proofs.YtakfdmhoooeejaaDoorW.PrintWords Go.Proofs.YtakfdmhoooeejaaDoorW.PrintLast Go.Proofs.YtakfdmhoooeejaaDoorW.PrintMore
open Go.Proofs.YtakfdmhoooeejaaDoor.My
set_option linter.unusedVariables false
set_option linter.unusedSimpArgs false
def idleS (s : FS) : Bool := (((decide (s.line.length = 0) && decide (s.texts.length = 0)) && decide (s.left = 0)) && !s.skip)
set_option maxHeartbeats 2000000 in
set_option maxRecDepth 100000 in
theorem begin0_ok (N0 g : Nat) (w : World) (nx : Value) (hb : w.heap[g]? = some (.cells #[.slice none 0 0, .slice none 0 0, .slice none 0 0, .int .i64 0, nx, .int .i64 0, .bool false] 52 (0, 0))) (hg : N0 ≤ g) :
    Calls Tryd.prog 19 #[.pointer (some ⟨g, 0, none⟩)] w fun e w' => e = .returned (.tuple #[]) ∧ FW N0 w' g vnil fs0 ∧ Below N0 w w' := by
  have HB := Aside0.mk hb
  have HG := Aside0.mk hg
  have c0 := blk_cell hb 0
  have c1 := blk_cell hb 1
  have c2 := blk_cell hb 2
  have c3 := blk_cell hb 3
  have f0 := blk_frozen hb 0
  have f1 := blk_frozen hb 1
  have f2 := blk_frozen hb 2
  have f3 := blk_frozen hb 3
  clear hb hg
  go_enter Tryd.func19, Tryd.ntmps19
  go_upto_region 1 with fail
  have HB1 := Aside0.mk (blk_set (blk_set (blk_set (blk_set HB.out 0 (.slice none 0 0)) 1 (.slice none 0 0)) 2 (.slice none 0 0)) 3 (.int .i64 0))
  have HX1 := Aside0.mk (show Below N0 w ((((w.setCell ⟨g, 0, none⟩ (.slice none 0 0)).setCell ⟨g, 1, none⟩ (.slice none 0 0)).setCell ⟨g, 2, none⟩ (.slice none 0 0)).setCell ⟨g, 3, none⟩ (.int .i64 0)) from below_setG (below_setG (below_setG (below_setG (Below.refl _ _) HG.out) HG.out) HG.out) HG.out)
  clear c0 c1 c2 c3 f0 f1 f2 f3
  generalize ((((w.setCell ⟨g, 0, none⟩ (.slice none 0 0)).setCell ⟨g, 1, none⟩ (.slice none 0 0)).setCell ⟨g, 2, none⟩ (.slice none 0 0)).setCell ⟨g, 3, none⟩ (.int .i64 0)) = w1 at HB1 HX1 ⊢
  have c4 := blk_cell HB1.out 4
  have c6 := blk_cell HB1.out 6
  have f4 := blk_frozen HB1.out 4
  have f6 := blk_frozen HB1.out 6
  go_wp2_with fail
  go_end0
  refine ⟨rfl, ⟨blk_set (blk_set HB1.out 6 (.bool false)) 4 _, HG.out, Kd.R_nil _ _ _ _ _, Kd.R_nil _ _ _ _ _, Kd.R_nil _ _ _ _ _, fun k hk => by simp [vnil, Value.ownBlock] at hk⟩, below_setG (below_setG HX1.out HG.out) HG.out⟩
set_option maxHeartbeats 2000000 in
set_option maxRecDepth 100000 in
theorem new_ok (w : World) :
    Calls Tryd.prog 10 #[] w fun e w' => e = .returned (.pointer (some ⟨w.heap.size, 0, none⟩)) ∧ FW w.heap.size w' w.heap.size vnil fs0 ∧ Below w.heap.size w w' := by
  go_enter Tryd.func10, Tryd.ntmps10
  go_wp2_with fail
  refine (begin0_ok w.heap.size w.heap.size _ .nilFunc (blk_new _ _) (Nat.le_refl _)).mono ?_
  rintro e w1 ⟨rfl, hw, hb⟩
  have HW := Aside0.mk hw
  have HX := Aside0.mk ((below_alloc (Below.refl w.heap.size w) _).trans hb)
  clear hw hb
  go_wp2_with fail
  go_ret
  exact ⟨rfl, HW.out, HX.out⟩
set_option maxHeartbeats 2000000 in
set_option maxRecDepth 100000 in
theorem idle_ok (N0 g : Nat) (w : World) (V : FV) (s : FS) (h : FW N0 w g V s) :
    Calls Tryd.prog 13 #[.pointer (some ⟨g, 0, none⟩)] w fun e w' => e = .returned (.bool (idleS s)) ∧ w' = w := by
  obtain ⟨At, ct, et⟩ := Kd.R_slice h.rt
  obtain ⟨Ab, cb, eb⟩ := Kd.R_slice h.rb
  have c0 := h.cell 0
  have c2 := h.cell 2
  have c3 := h.cell 3
  have c4 : w.cell? ⟨g, 4, none⟩ = some (.func (.func (fnOf s.md)) #[.pointer (some ⟨g, 0, none⟩)] #[]) := h.cell 4
  have c5 := h.cell 5
  have c6 := h.cell 6
  have f0 := h.fz 0
  have f2 := h.fz 2
  have f4 := h.fz 4
  have f5 := h.fz 5
  have f6 := h.fz 6
  change _ = some V.t at c0
  change _ = some V.b at c2
  rw [et] at c0
  rw [eb, nb_len] at c2
  change _ = some (Value.int .i64 s.left) at c5
  change _ = some (Value.bool s.skip) at c6
  have hnn : ∀ (W : World) (fn : Fn) (a b : Array Value), (binOp BinOp.eql 50 (.func fn a b) .nilFunc).run Tryd.prog W = .ok (.bool false) W := fun _ _ _ _ => by kernel_rfl
  generalize hfn : fnOf s.md = fn at c4
  clear hfn et eb h c3
  unfold idleS
  generalize s.line.length = m2 at c2 ⊢
  generalize s.texts.length = m0 at c0 ⊢
  generalize s.left = lf at c5 ⊢
  generalize s.skip = sk at c6 ⊢
  go_enter Tryd.func13, Tryd.ntmps13
  go_wp2_with fail
  all_goals (go_ret; refine ⟨?_, rfl⟩; clear hnn c4 f0 f2 f4 f5 f6 c0 c2 c5 c6; congr 2; simp_all)
end Go.Proofs.YtakfdmhoooeejaaDoor.PP
