/- YtmpngedfnheilaaDoorMyViewB, as far as ViewWhole needs it (prune.py). -/
import Derived.Test.YtmpngedfnheilaaDoorViewWholeMyViewA
import Derived.Test.YtmpngedfnheilaaDoorViewWholePPx6
namespace Go.Proofs.YtmpngedfnheilaaDoor.PP
open Go.RowKit Go.Proofs.YtmpngedfnheilaaDoorW.PrintWords Go.Proofs.YtmpngedfnheilaaDoorW.PrintLast Go.Proofs.YtmpngedfnheilaaDoorW.PrintMore
open Go.Proofs.YtmpngedfnheilaaDoor.My
set_option linter.unusedVariables false
set_option linter.unusedSimpArgs false
theorem sl_new (wr : World) (o : Obj) : Go.Value.slice (some ⟨wr.heap.size + 1, 0, none⟩) 1 1 = .slice (some ⟨(wr.alloc o).heap.size, 0, none⟩) 1 1 := by
  simp only [World.alloc, Array.size_push]
theorem take_snoc {α : Type} (l : List α) (i : Nat) (d : α) (h : i < l.length) : l.take (i + 1) = l.take i ++ [l.getD i d] := by
  rw [List.take_add_one, List.getElem?_eq_getElem h]
  simp [List.getD_eq_getElem?_getD, List.getElem?_eq_getElem h]
set_option maxHeartbeats 4000000 in
set_option maxRecDepth 100000 in
theorem placesUIDs_ok (N0 g : Nat) (v : Value) (l : List Pl) (top : Int) (w : World) (h : VW N0 w g v l top) (hl : l.length ≤ 1000000000) :
    Calls Tryd.prog 38 #[.pointer (some ⟨g, 0, none⟩)] w fun e w' => ∃ v0 : Value, e = .returned v0 ∧ Kd.R (Kd.int .i64) 3 w' w.heap.size (fun _ => True) v0 (l.map (·.f0)) ∧ Below w.heap.size w w' := by
  have HL := Aside0.mk hl
  have hc0 := h.cell0
  obtain ⟨A, c, rfl, hlc, hC⟩ := h.slice
  have HC := Aside0.mk hC
  clear hC h hl
  go_enter Tryd.func38, Tryd.ntmps38
  go_wp2_with fail
  go_loopg [3, 11] l.length (fun kq v3 v11 wr => ∃ (x : Int) (i : Nat), v11 = .int .i64 x ∧ Aside0 (x = i ∧ i + kq = l.length) ∧ Aside0 (Kd.R (Kd.int .i64) 3 wr w.heap.size (fun _ => True) v3 ((l.take i).map (·.f0))) ∧ Aside0 (Below w.heap.size w wr))
  case atStart => exact ⟨0, 0, rfl, ⟨rfl, by omega⟩, ⟨Kd.R_nil _ _ _ _ _⟩, ⟨Below.refl _ _⟩⟩
  case round =>
    obtain ⟨x, i, rfl, HX, HR, HW⟩ := hrel
    cases gk with
    | zero =>
      have c1b : decide (x < (l.length : Int)) = false := decide_eq_false (by have := HX.out; omega)
      have HE : l.take i = l := List.take_of_length_le (by have := HX.out; omega)
      rw [HE] at HR
      clear HE
      go_wp2_with fail
      go_ret
      exact ⟨_, rfl, HR.out, HW.out⟩
    | succ k1 =>
      have q1 : x < (l.length : Int) := by have := HX.out; omega
      have q0 : 0 ≤ x := by have := HX.out; omega
      have c1b : decide (x < (l.length : Int)) = true := decide_eq_true q1
      obtain ⟨ad, A1, c1, rfl, hx0, hx1, hl1, hi1⟩ := at_T74 HC.out x q0 q1
      replace hx0 := (HW.out.cell (World.block_lt_of_cell? w _ hx0)).trans hx0
      replace hx1 := (HW.out.cell (World.block_lt_of_cell? w _ hx1)).trans hx1
      have q0b := eq_true q0
      have q1b := eq_true q1
      have HE : (l.take (i + 1)).map (·.f0) = (l.take i).map (·.f0) ++ [(rd_T74 l x).f0] := by
        have := HX.out
        rw [take_snoc l i z74 (by omega), List.map_append]
        unfold rd_T74
        rw [show x.toNat = i by omega]
        rfl
      have HLE := Aside0.mk HE
      have hi := Aside0.mk (show (i : Int) = x ∧ i < l.length by have := HX.out; omega)
      clear hi1 hl1 HE q0 q1
      obtain ⟨Ao, co, eo⟩ := Kd.R_slice HR.out
      subst eo
      have HLT := Aside0.mk (show ((l.take i).map (·.f0)).length < 17592186044416 by have := HL.out; simp; omega)
      generalize (l.take i).map (·.f0) = acc at HR HLE HLT ⊢
      go_wp2_with (first | ((with_reducible refine gate_builtin (b := .append) (xs := #[.tmp 15, .tmp 18]) rfl ?_); (try (refine gate_guard (by rfl) ?_; dsimp only)); at_builtin; refine Kd.R_append (Kd.int .i64) (w0 := w) w.heap.size rfl (.tmp 15) (.tmp 18) 34 3 (.int .i64 0) 8 rfl Tryd.underlying34 info3 rfl (by decide) (by omega) (.slice Ao acc.length co) acc ((rd_T74 l x).f0) [.int .i64 ((rd_T74 l x).f0)] (fun _ => True) (fun _ => False) rfl ?aX ?aP (fun _ hk => hk.elim) ?aF ?aO ?aB ?aS ?aL ?_; (case aX => exact sl_new wr _); (case aP => exact rfl); (case aB => exact (by repeat (first | (with_reducible first | exact HW.out | apply below_alloc | apply pw_below_drewN | apply below_drew1) | exact HW.out))); (case aF => exact (fun _ _ => trivial)); (case aO => exact (by (with_reducible repeat (first | apply Kd.R_alloc | apply Kd.R_drewN | apply Kd.R_drew)); exact HR.out)); (case aS => exact (below_size (by repeat (first | (with_reducible first | exact HW.out | apply below_alloc | apply pw_below_drewN | apply below_drew1) | exact HW.out)))); (case aL => have := HLT.out; omega); intro v30 w3 ho hb hg hat; have HR3 := Aside0.mk ho; have HW3 := Aside0.mk hb; clear ho hb hg hat))
      go_roundg k1
      case measure => omega
      case rel => exact ⟨wrap64 (x + 1), i + 1, rfl, ⟨by have := HX.out; have := HL.out; unfold wrap64; omega⟩, ⟨HLE.out ▸ HR3.out⟩, HW3⟩
set_option maxHeartbeats 2000000 in
set_option maxRecDepth 100000 in
theorem viewUIDs_ok (N0 g : Nat) (v : Value) (l : List Pl) (top : Int) (w : World) (h : VW N0 w g v l top) (hl : l.length ≤ 1000000000) :
    Calls Tryd.prog 14 #[.pointer (some ⟨g, 0, none⟩)] w fun e w' => ∃ v0 : Value, e = .returned v0 ∧ Kd.R (Kd.int .i64) 3 w' w.heap.size (fun _ => True) v0 (l.map (·.f0)) ∧ Below w.heap.size w w' := by
  have H := Aside0.mk h
  clear h
  go_enter Tryd.func14, Tryd.ntmps14
  go_wp2_with fail
  refine (placesUIDs_ok N0 g v l top _ H.out hl).mono ?_
  rintro e w1 ⟨v0, rfl, hr, hb⟩
  have HR := Aside0.mk hr
  have HB := Aside0.mk hb
  clear hr hb
  go_wp2_with fail
  go_ret
  exact ⟨_, rfl, HR.out, HB.out⟩
end Go.Proofs.YtmpngedfnheilaaDoor.PP
