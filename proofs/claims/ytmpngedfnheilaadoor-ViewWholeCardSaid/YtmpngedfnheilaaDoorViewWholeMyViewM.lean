/- YtmpngedfnheilaaDoorMyViewM, as far as ViewWhole needs it (prune.py). -/
import Derived.Test.YtmpngedfnheilaaDoorViewWholeMyViewQ
namespace Go.Proofs.YtmpngedfnheilaaDoor.PP
open Go.RowKit Go.Proofs.YtmpngedfnheilaaDoorW.PrintWords Go.Proofs.YtmpngedfnheilaaDoorW.PrintLast Go.Proofs.YtmpngedfnheilaaDoorW.PrintMore
open Go.Proofs.YtmpngedfnheilaaDoor.My
set_option linter.unusedVariables false
set_option linter.unusedSimpArgs false
/-- A row of whole numbers of the call's own. -/
abbrev IRow (w : World) (base : Nat) (v : Value) (l : List Int) : Prop := Kd.R (Kd.int .i64) 3 w base (fun _ => True) v l
theorem IRow.spare {W : World} {N0 r n cap : Nat} {l : List Int} (h : IRow W N0 (.slice (some ⟨r, 0, none⟩) n cap) l) (q : Nat) (hq : n ≤ q) (u : Value) : IRow (W.setCell ⟨r, q, none⟩ u) N0 (.slice (some ⟨r, 0, none⟩) n cap) l := by
  have hnn : n = l.length := (Kd.R_reads' h).1
  obtain ⟨h0, inner, ⟨hl, ho⟩, hr⟩ := h
  refine ⟨fun _ _ => trivial, inner, ⟨hl, ?_⟩, hr⟩
  rcases ho with ⟨ho, _⟩ | ⟨g, cap', cur, e, hb, hh, h1, h2, h3, h4⟩
  · cases ho
  · injection e with e1 _ e3
    injection e1 with e1
    injection e1 with e1
    subst e1
    subst e3
    refine .inr ⟨r, cap, cur.setIfInBounds q u, by rw [← hnn], hb, blk_set hh q u, h1, h2, by simpa using h3, ?_⟩
    rw [← h4]
    apply List.ext_getElem?
    intro j
    simp only [List.getElem?_take]
    split
    · rename_i hj
      have : q ≠ j := by
        have h5 : l.length * (Kd.int .i64).sz = n * 1 := by rw [← hnn]; rfl
        omega
      rw [Array.getElem?_toList, Array.getElem?_toList, Array.getElem?_setIfInBounds_ne this]
    · rfl
theorem IRow.cellAt {W : World} {N0 r n cap : Nat} {l : List Int} (h : IRow W N0 (.slice (some ⟨r, 0, none⟩) n cap) l) (q : Nat) (hq : q < cap) : (W.cell? ⟨r, q, none⟩).isSome = true ∧ W.frozen? ⟨r, q, none⟩ = false := by
  obtain ⟨h0, inner, ⟨hl, ho⟩, hr⟩ := h
  rcases ho with ⟨ho, _⟩ | ⟨g, cap', cur, e, hb, hh, h1, h2, h3, h4⟩
  · cases ho
  · injection e with e1 _ e3
    injection e1 with e1
    injection e1 with e1
    subst e1
    subst e3
    have h3' : cur.size = cap * 1 := h3
    exact ⟨by rw [blk_cell hh]; simp [h3', hq], blk_frozen hh q⟩
theorem zero_int (w : World) : (zeroValue 3).run Tryd.prog w = .ok (.int .i64 0) w := by kernel_rfl
theorem clear1i (W : World) (r q c : Nat) (h0 : (W.cell? ⟨r, q, none⟩).isSome = true) (f0 : W.frozen? ⟨r, q, none⟩ = false) :
    (Builtin.clear_ #[34] 0 #[.slice (some ⟨r, q, none⟩) 1 c]).run Tryd.prog W = .ok (.tuple #[]) (W.setCell ⟨r, q, none⟩ (.int .i64 0)) := by
  refine (Lib.run_clear_slice W 34 3 0 (.int .i64 0) Tryd.underlying34 zero_int rfl rfl r q 1 c (by omega) (fun j hj => ?_) (fun j hj => ?_)).trans rfl
  · obtain rfl : j = 0 := by omega
    exact h0
  · obtain rfl : j = 0 := by omega
    exact f0
set_option maxHeartbeats 4000000 in
set_option maxRecDepth 100000 in
theorem intClone_ok (A0 : Option Addr) (c0 : Nat) (l : List Int) (w : World) (h : Kd.C (Kd.int .i64) w A0 l.length l) (hl : l.length ≤ 1000000000) :
    Calls Tryd.prog 51 #[.slice A0 l.length c0] w fun e w' => ∃ v' : Value, e = .returned v' ∧ IRow w' w.heap.size v' l ∧ Below w.heap.size w w' := by
  have hq : ∀ (W : World) (a : Option Addr) (n c n' c' : Nat), (binOp .eql 34 (.slice a n c) (.slice none n' c')).run Tryd.prog W = .ok (.bool a.isNone) W := fun W a n c n' c' => Lib.run_eql_slice_nil W _ _ a n c n' c' Tryd.underlying34
  have HR := Aside0.mk h
  have HL := Aside0.mk hl
  clear hl
  go_enter Tryd.func51, Tryd.ntmps51
  cases A0 with
  | none =>
    have hz : l = [] := by
      cases l with
      | nil => rfl
      | cons x y =>
        obtain ⟨ad, e, _⟩ := h.2.2 (by simp)
        cases e
    subst hz
    clear h
    go_wp2_with fail
    go_ret
    exact ⟨_, rfl, Kd.R_nil _ _ _ _ _, Below.refl _ _⟩
  | some ad =>
    clear h
    have HB := Aside0.mk (Below.refl w.heap.size w)
    go_wp2_with (first | ((with_reducible refine gate_dst (N := 5) rfl ?_); (try (refine gate_guard (by rfl) ?_; dsimp only)); refine Kd.R_lit (Kd.int .i64) _ 3 ?hg (N := 5) ?hd (xs := ([] : List Int)) (inner := []) (ok := fun _ => True) (okp := fun _ => True) ?hr ?hp (fun _ hk => hk) trivial (Below.refl _ _) (Nat.le_refl _) (by simp) ?_; (case hd => rfl); (case hg => rfl); (case hr => first | (go_simp; done) | (go_simp; rfl)); (case hp => exact (Reps.none _ _)); intro v5 w1 ho hb hg_ hnew_; clear hg_ hnew_; have HO := Aside0.mk (Kd.R_lower ho (below_size HB.out)); have HB1 := Aside0.mk (below_step HB.out hb); clear hb ho) | ((with_reducible refine gate_builtin (b := .append) (xs := #[.tmp 5, .tmp 6]) rfl ?_); (try (refine gate_guard (by rfl) ?_; dsimp only)); at_builtin; refine Kd.R_append_rows (Kd.int .i64) (w0 := w) w.heap.size rfl (.tmp 5) (.tmp 6) 34 3 (.int .i64 0) 8 rfl Tryd.underlying34 info3 rfl (by decide) (by omega) v5 [] l _ _ _ (fun _ => True) (fun _ => False) rfl rfl ?aO ?aR (fun _ _ h => h) (fun _ h => h.elim) ?aF ?aB ?aS ?aL ?_; (case aR => exact Kd.C_below HR.out HB1.out); (case aB => exact HB1.out); (case aF => exact (fun _ _ => trivial)); (case aO => exact HO.out); (case aS => exact HB1.out.size); (case aL => have := HL.out; simp; omega); intro v7 w2 ho hb hg hat; have HO7 := Aside0.mk ho; have HB7 := Aside0.mk hb; clear ho hb hg hat))
    go_ret
    exact ⟨_, rfl, HO7.out, HB7.out⟩
set_option maxHeartbeats 4000000 in
set_option maxRecDepth 100000 in
theorem intDelete_ok (N0 r c0 : Nat) (l : List Int) (i : Nat) (w : World) (h : IRow w N0 (.slice (some ⟨r, 0, none⟩) l.length c0) l) (hl : l.length ≤ 1000000000) (hi : i < l.length) :
    Calls Tryd.prog 52 #[.slice (some ⟨r, 0, none⟩) l.length c0, .int .i64 i, .int .i64 ((i : Int) + 1)] w fun e w' => e = .returned (.slice (some ⟨r, 0, none⟩) (l.length - 1) c0) ∧ IRow w' N0 (.slice (some ⟨r, 0, none⟩) (l.length - 1) c0) (l.eraseIdx i) ∧ Below N0 w w' := by
  have HP := Aside0.mk h
  have HL := Aside0.mk hl
  obtain ⟨_, hc, _⟩ := Kd.R_reads' h
  have q1 : (i : Int) ≤ (i : Int) + 1 := by omega
  have q2 : (i : Int) + 1 ≤ (l.length : Int) := by omega
  have q4 := eq_true (show (0 : Int) ≤ (i : Int) + 1 by omega)
  have q5 := eq_true q2
  have q6 := eq_true (show i ≤ c0 by omega)
  have q7 := eq_true (show l.length - 1 ≤ l.length by omega)
  have q8 := eq_true hc
  have q9 : l.length - (l.length - 1) = 1 := by omega
  have q3 : ((i : Int) == (i : Int) + 1) = false := beq_eq_false_iff_ne.mpr (by omega)
  go_enter Tryd.func52, Tryd.ntmps52
  have hge := Kd.R_base h r rfl
  have hlt := (Kd.own_of_R h)
  have HI := Aside0.mk hi
  have HN := Aside0.mk (show N0 ≤ w.heap.size by
    obtain ⟨c, hb⟩ := Kd.R_typed h r rfl
    have := (Array.getElem?_eq_some_iff.1 hb).1
    omega)
  have HGE := Aside0.mk hge
  have HCC := Aside0.mk hc
  clear hlt
  by_cases hcap : c0 = i + 1
  · subst hcap
    go_wp2_with fail
    go_region_law (first | (refine Kd.R_delete_step (Kd.int .i64) (w0 := w) N0 (by rfl) (.tmp 22) (.tmp 25) 34 3 rfl Tryd.underlying34 (by kernel_rfl) (n := l.length) (k := i) (xs := l) (c := i + 1) (ok := fun _ => True) rfl rfl ?dA ?dm ?dO HI.out ?dB ?dN ?_; (case dA => simp); (case dm => have := HCC.out; have := HI.out; omega); (case dO => exact HP.out); (case dB => exact (by repeat (first | exact Below.refl _ _ | apply pw_below_drewN | apply below_drew1))); (case dN => exact HN.out); intro w8 h8 hb8 hg8))
    have hcl := fun (c : Nat) => clear1i w8 r (l.length - 1) c (IRow.cellAt h8 _ (by have := HCC.out; have := HI.out; omega)).1 (IRow.cellAt h8 _ (by have := HCC.out; have := HI.out; omega)).2
    have H8 := Aside0.mk (IRow.spare h8 (l.length - 1) (Nat.le_refl _) (.int .i64 0))
    have HB8 := Aside0.mk (hb8.setCell (p := ⟨r, l.length - 1, none⟩) HGE.out (.int .i64 0))
    clear h8 hb8 hg8
    go_wp2_with fail
    go_ret
    exact ⟨rfl, H8.out, HB8.out⟩
  · have hcapb := eq_false hcap
    go_wp2_with fail
    go_region_law (first | (refine Kd.R_delete_step (Kd.int .i64) (w0 := w) N0 (by rfl) (.tmp 22) (.tmp 25) 34 3 rfl Tryd.underlying34 (by kernel_rfl) (n := l.length) (k := i) (xs := l) (c := c0) (ok := fun _ => True) rfl rfl ?dA ?dm ?dO HI.out ?dB ?dN ?_; (case dA => (rw [if_neg hcap, Option.map_some, addr0]; simp [Kd.int]; exact (Nat.mul_one _).symm)); (case dm => have := HCC.out; have := HI.out; omega); (case dO => exact HP.out); (case dB => exact (by repeat (first | exact Below.refl _ _ | apply pw_below_drewN | apply below_drew1))); (case dN => exact HN.out); intro w8 h8 hb8 hg8))
    have hcl := fun (c : Nat) => clear1i w8 r (l.length - 1) c (IRow.cellAt h8 _ (by have := HCC.out; have := HI.out; omega)).1 (IRow.cellAt h8 _ (by have := HCC.out; have := HI.out; omega)).2
    have H8 := Aside0.mk (IRow.spare h8 (l.length - 1) (Nat.le_refl _) (.int .i64 0))
    have HB8 := Aside0.mk (hb8.setCell (p := ⟨r, l.length - 1, none⟩) HGE.out (.int .i64 0))
    clear h8 hb8 hg8
    go_wp2_with fail
    go_ret
    exact ⟨rfl, H8.out, HB8.out⟩
end Go.Proofs.YtmpngedfnheilaaDoor.PP
