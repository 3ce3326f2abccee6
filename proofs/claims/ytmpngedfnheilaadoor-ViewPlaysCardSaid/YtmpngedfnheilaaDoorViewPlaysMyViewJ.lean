/- MyViewI, MyViewJ (mergeall.py). -/
import Derived.Test.YtmpngedfnheilaaDoorViewPlaysMyViewH
import Derived.Lib.SlicesS
namespace Go.Proofs.YtmpngedfnheilaaDoor.PP
open Go.RowKit Go.Proofs.YtmpngedfnheilaaDoorW.PrintWords Go.Proofs.YtmpngedfnheilaaDoorW.PrintLast Go.Proofs.YtmpngedfnheilaaDoorW.PrintMore
open Go.Proofs.YtmpngedfnheilaaDoor.My
set_option linter.unusedVariables false
set_option linter.unusedSimpArgs false
theorem PRow.below {w w' : World} {N0 : Nat} {v : Value} {l : List Pl} (h : PRow w N0 v l) (hb : Below w.heap.size w w') : PRow w' N0 v l := h.keep (fun k hk => hb.block k (Kd.N_lt h k hk)) (fun k hk => hb.block k hk.lt)
theorem PRow.nil (w : World) (N0 : Nat) : PRow w N0 (.slice none 0 0) [] := Kd.N_nil _ _ _ _ _
set_option maxHeartbeats 4000000 in
set_option maxRecDepth 100000 in
theorem placeClone_ok (N0 : Nat) (A0 : Option Addr) (c0 : Nat) (l : List Pl) (w : World) (h : PRow w N0 (.slice A0 l.length c0) l) (hl : l.length ≤ 1000000000) :
    Calls Tryd.prog 44 #[.slice A0 l.length c0] w fun e w' => ∃ v' : Value, e = .returned v' ∧ PRow w' w.heap.size v' l ∧ Below w.heap.size w w' := by
  have hq : ∀ (W : World) (a : Option Addr) (n c n' c' : Nat), (binOp .eql 66 (.slice a n c) (.slice none n' c')).run Tryd.prog W = .ok (.bool a.isNone) W := fun W a n c n' c' => Lib.run_eql_slice_nil W _ _ a n c n' c' Tryd.underlying66
  have hr0 := (Kd.N_reads' h).2.2
  obtain ⟨rows, hrl, hR0, hf⟩ := h.rows
  have HR0 := Aside0.mk hR0
  have HF := Aside0.mk hf
  have HRL := Aside0.mk hrl
  have HL := Aside0.mk hl
  clear hR0 hf h hl
  go_enter Tryd.func44, Tryd.ntmps44
  cases A0 with
  | none =>
    have hz : l = [] := by
      cases l with
      | nil => rfl
      | cons x y =>
        obtain ⟨ad, e, _⟩ := hr0.2.2 (by simp)
        cases e
    subst hz
    clear hr0 hrl
    go_wp2_with fail
    go_ret
    exact ⟨_, rfl, PRow.nil _ _, Below.refl _ _⟩
  | some ad =>
    clear hr0 hrl
    have HB := Aside0.mk (Below.refl w.heap.size w)
    go_wp2_with (first | ((with_reducible refine gate_dst (N := 5) rfl ?_); (try (refine gate_guard (by rfl) ?_; dsimp only)); refine Kd.R_lit (Kd.raw 2) _ 74 ?hg (N := 5) ?hd (xs := ([] : List (List Value))) (inner := []) (ok := fun _ => True) (okp := fun _ => True) ?hr ?hp (fun _ hk => hk) trivial (Below.refl _ _) (Nat.le_refl _) (by simp) ?_; (case hd => rfl); (case hg => rfl); (case hr => first | (go_simp; done) | (go_simp; rfl)); (case hp => exact (Reps.none _ _)); intro v5 w1 ho hb hg_ hnew_; clear hg_ hnew_; have HO := Aside0.mk (Kd.R_lower ho (below_size HB.out)); have HB1 := Aside0.mk (below_step HB.out hb); clear hb ho) | ((with_reducible refine gate_builtin (b := .append) (xs := #[.tmp 5, .tmp 6]) rfl ?_); (try (refine gate_guard (by rfl) ?_; dsimp only)); at_builtin; refine Kd.R_append_rows (Kd.raw 2) (w0 := w) w.heap.size rfl (.tmp 5) (.tmp 6) 66 74 (.agg #[.int .i64 0, .slice none 0 0]) 32 rfl Tryd.underlying66 (by kernel_rfl) rfl (by decide) (by omega) v5 [] rows _ _ _ (fun _ => True) (fun _ => False) rfl rfl ?aO ?aR (fun _ _ h => h) (fun _ h => h.elim) ?aF ?aB ?aS ?aL ?_; (case aR => exact (by have h_ := (Kd.R_reads' (Kd.R_below HR0.out (HB1.out))).2.2; rw [HRL.out] at h_; exact h_)); (case aB => exact HB1.out); (case aF => exact (fun _ _ => trivial)); (case aO => exact HO.out); (case aS => exact HB1.out.size); (case aL => have := HL.out; simp; omega); intro v7 w2 ho hb hg hat; have HO7 := Aside0.mk ho; have HB7 := Aside0.mk hb; clear ho hb hg hat))
    go_ret
    exact ⟨_, rfl, PRow.mk HRL.out (List.nil_append rows ▸ HO7.out) (fun j x c hx hc => FK9_step (HF.out j x c hx hc) (fun k hk => HB7.out.block k hk.lt)), HB7.out⟩
set_option maxHeartbeats 4000000 in
set_option maxRecDepth 100000 in
theorem viewCopy_ok (N0 g : Nat) (v : Value) (l : List Pl) (top : Int) (w : World) (h : VW N0 w g v l top) (hl : l.length ≤ 1000000000) :
    Calls Tryd.prog 20 #[.pointer (some ⟨g, 0, none⟩)] w fun e w' => ∃ (g' : Nat) (v' : Value), e = .returned (.pointer (some ⟨g', 0, none⟩)) ∧ VW w.heap.size w' g' v' l top ∧ Below w.heap.size w w' := by
  have HV := Aside0.mk h
  have HL := Aside0.mk hl
  obtain ⟨A0, c0, rfl, _, _⟩ := h.slice
  have hg0 := h.cell0
  have hg1 := h.cell1
  clear h hl
  go_enter Tryd.func20, Tryd.ntmps20
  go_wp2_with fail
  go_region_held3 (fun W => W.cell? ⟨g, 0, none⟩ = some (.slice A0 l.length c0) ∧ W.cell? ⟨g, 1, none⟩ = some (.int .i64 top)) (first | exact ⟨hg0, hg1⟩ | exact hHeld | exact ⟨hg7, hg8⟩ | exact hgo _) (first | (go_at_call 44; refine (placeClone_ok N0 A0 c0 l _ (by first | exact (HV.out.drewN _).prow | exact HV.out.drew.prow | exact HV.out.prow) HL.out).mono ?_; rintro e w7 ⟨v7, rfl, hp7, hb7⟩; have hb8 : Below w.heap.size w w7 := (by first | exact hb7 | exact Below.trans (by repeat (first | exact Below.refl _ _ | apply pw_below_drewN | apply below_drew1)) hb7); have HP7 := Aside0.mk (show PRow w7 w.heap.size v7 l from hp7); obtain ⟨A7, c7, e7⟩ := Kd.N_slice HP7.out; subst e7; have HB7 := Aside0.mk hb8; have hg7 := (HV.out.below hb8).cell0; have hg8 := (HV.out.below hb8).cell1; have hgo := (fun (o : Obj) => And.intro ((HV.out.below hb8).alloc o).cell0 ((HV.out.below hb8).alloc o).cell1); clear hb7 hb8 hp7))
  go_wp2_with fail
  go_ret
  exact ⟨w7.heap.size, .slice A7 l.length c7, rfl, ⟨blk_new _ _, HB7.out.size, HP7.out.below (below_alloc (Below.refl _ _) _)⟩, below_alloc HB7.out _⟩
end Go.Proofs.YtmpngedfnheilaaDoor.PP

namespace Go.Proofs.YtmpngedfnheilaaDoor.PP
open Go.RowKit Go.Proofs.YtmpngedfnheilaaDoorW.PrintWords Go.Proofs.YtmpngedfnheilaaDoorW.PrintLast Go.Proofs.YtmpngedfnheilaaDoorW.PrintMore
open Go.Proofs.YtmpngedfnheilaaDoor.My
set_option linter.unusedVariables false
set_option linter.unusedSimpArgs false
/-- Cells behind the places are the row's own. -/
theorem PRow.spare {W : World} {N0 r n cap : Nat} {l : List Pl} (h : PRow W N0 (.slice (some ⟨r, 0, none⟩) n cap) l) (q : Nat) (hq : n * 2 ≤ q) (u : Value) : PRow (W.setCell ⟨r, q, none⟩ u) N0 (.slice (some ⟨r, 0, none⟩) n cap) l := by
  have hn := fun k (hk : T9 W k) => h.ne9 hk
  obtain ⟨rows, hrl, hR, hf⟩ := h.rows
  have hh : ∀ k, k ≠ r → (W.setCell ⟨r, q, none⟩ u).heap[k]? = W.heap[k]? := fun k hk => Below.heap_setCell W ⟨r, q, none⟩ u k hk
  refine PRow.mk hrl ?_ (fun j x c hx hc => FK9_step (hf j x c hx hc) (fun k hk => hh k (fun e => hn k hk (by rw [e]; rfl))))
  have hnn : n = rows.length := (Kd.R_reads' hR).1
  obtain ⟨h0, inner, ⟨hl, ho⟩, hr⟩ := hR
  refine ⟨fun _ _ => trivial, inner, ⟨hl, ?_⟩, hr⟩
  rcases ho with ⟨ho, _⟩ | ⟨g, cap', cur, e, hb, hh, h1, h2, h3, h4⟩
  · cases ho
  · injection e with e1 _ e3
    injection e1 with e1
    injection e1 with e1
    subst e1
    subst e3
    refine .inr ⟨r, cap, cur.setIfInBounds q u, by rw [← hnn], hb, blk_set hh q u, h1, h2, by simpa using h3, ?_⟩
    rw [← h4]
    apply List.ext_getElem?
    intro j
    simp only [List.getElem?_take]
    split
    · rename_i hj
      have : q ≠ j := by
        have h5 : rows.length * (Kd.raw 2).sz = n * 2 := by rw [← hnn]; rfl
        omega
      rw [Array.getElem?_toList, Array.getElem?_toList, Array.getElem?_setIfInBounds_ne this]
    · rfl
theorem PRow.cellAt {W : World} {N0 r n cap : Nat} {l : List Pl} (h : PRow W N0 (.slice (some ⟨r, 0, none⟩) n cap) l) (q : Nat) (hq : q < cap * 2) : (W.cell? ⟨r, q, none⟩).isSome = true ∧ W.frozen? ⟨r, q, none⟩ = false := by
  obtain ⟨rows, hrl, hR, hf⟩ := h.rows
  obtain ⟨h0, inner, ⟨hl, ho⟩, hr⟩ := hR
  rcases ho with ⟨ho, _⟩ | ⟨g, cap', cur, e, hb, hh, h1, h2, h3, h4⟩
  · cases ho
  · injection e with e1 _ e3
    injection e1 with e1
    injection e1 with e1
    subst e1
    subst e3
    have h3' : cur.size = cap * 2 := h3
    exact ⟨by rw [blk_cell hh]; simp [h3', hq], blk_frozen hh q⟩
section
variable {P : Program} {ops : Array Oper} {o : Oper} {a : Act} {Q : Exit → Act → World → Prop} {Kc : Act → World → Prop}
theorem PRow_delete_step {w0 W : World} {N0 : Nat} (hw : Region.wanted o (yielded ops a.tmps) = true) (s x : Operand) (t : TypeId) (ho : o.op = .call { callee := .builtin .append, args := #[s, x], argTypes := #[t, t] })
    (ht : P.underlying t = some (.slice 74)) (hinfo : (P.info? 74).map (·.size) = some 2) {g n c k m c2 : Nat} {A : Option Addr} {xs : List Pl}
    (hs : a.eval s = .slice (some ⟨g, 0, none⟩) k c) (hx : a.eval x = .slice A m c2) (hA : A = if c = k + 1 then some ⟨g, 0, none⟩ else (some (⟨g, 0, none⟩ : Addr)).map (·.add ((k + 1) * 2))) (hm : m = n - (k + 1))
    (HO : PRow W N0 (.slice (some ⟨g, 0, none⟩) n c) xs) (hk : k < n) (HB : Below N0 w0 W) (hbase : N0 ≤ W.heap.size)
    (h : ∀ w1, PRow w1 N0 (.slice (some ⟨g, 0, none⟩) (n - 1) c) (xs.eraseIdx k) → Below N0 w0 w1 → W.grownBy w1 (some g) → Kc (a.put o.dst (.slice (some ⟨g, 0, none⟩) (n - 1) c)) w1) :
    if Region.wanted o (yielded ops a.tmps) = true then Oper.wp P o a W Kc Q else Kc (a.put o.dst undef) W := by
  have hn := fun k (hk : T9 W k) => HO.ne9 hk
  refine Kd.N_delete_step k74 N0 hw s x t 74 ho ht hinfo hs hx hA hm HO hk HB hbase (fun w1 h1 hb hg => h w1 (Kd.N_mono h1 (fun k hk => hk.imp (fun hk => ?_) id)) hb hg)
  obtain ⟨c, hc⟩ := hk
  exact ⟨c, (hg.block k (T9.lt ⟨c, hc⟩) (fun e => hn k ⟨c, hc⟩ (by rw [e]; rfl))).trans hc⟩
end
theorem zero_place (w : World) : (zeroValue 74).run Tryd.prog w = .ok (.agg #[.int .i64 0, .slice none 0 0]) w := by kernel_rfl
theorem clear1 (W : World) (r q c : Nat) (h0 : (W.cell? ⟨r, q, none⟩).isSome = true) (h1 : (W.cell? ⟨r, q + 1, none⟩).isSome = true) (f0 : W.frozen? ⟨r, q, none⟩ = false) (f1 : W.frozen? ⟨r, q + 1, none⟩ = false) :
    (Builtin.clear_ #[66] 0 #[.slice (some ⟨r, q, none⟩) 1 c]).run Tryd.prog W = .ok (.tuple #[]) ((W.setCell ⟨r, q, none⟩ (.int .i64 0)).setCell ⟨r, q + 1, none⟩ (.slice none 0 0)) := by
  have hz : (Builtin.zeroCells (Value.agg #[.int .i64 0, .slice none 0 0]).cells 1).toList = [.int .i64 0, .slice none 0 0] := by kernel_rfl
  have hst := run_storeCells_cells (P := Tryd.prog) r q [.int .i64 0, .slice none 0 0] 0 W (fun j hj => by
    rcases j with _ | _ | j
    · exact h0
    · exact h1
    · simp at hj; omega) (fun j hj => by
    rcases j with _ | _ | j
    · exact f0
    · exact f1
    · simp at hj; omega) (fun v hv => by
    rcases List.mem_cons.1 hv with rfl | hv
    · rfl
    · rcases List.mem_cons.1 hv with rfl | hv
      · rfl
      · cases hv)
  simp only [Nat.add_zero] at hst
  simp [Builtin.clear_, run_underlying Tryd.underlying66, zero_place, hz, hst]
  rfl
set_option maxHeartbeats 4000000 in
set_option maxRecDepth 100000 in
theorem placeDelete_ok (N0 r c0 : Nat) (l : List Pl) (i : Nat) (w : World) (h : PRow w N0 (.slice (some ⟨r, 0, none⟩) l.length c0) l) (hl : l.length ≤ 1000000000) (hi : i < l.length) :
    Calls Tryd.prog 40 #[.slice (some ⟨r, 0, none⟩) l.length c0, .int .i64 i, .int .i64 ((i : Int) + 1)] w fun e w' => e = .returned (.slice (some ⟨r, 0, none⟩) (l.length - 1) c0) ∧ PRow w' N0 (.slice (some ⟨r, 0, none⟩) (l.length - 1) c0) (l.eraseIdx i) ∧ Below N0 w w' ∧ Kept w w' (fun k => k = r) := by
  have HP := Aside0.mk h
  have HL := Aside0.mk hl
  obtain ⟨_, hc, _⟩ := Kd.N_reads' h
  have q1 : (i : Int) ≤ (i : Int) + 1 := by omega
  have q2 : (i : Int) + 1 ≤ (l.length : Int) := by omega
  have q4 := eq_true (show (0 : Int) ≤ (i : Int) + 1 by omega)
  have q5 := eq_true q2
  have q6 := eq_true (show i ≤ c0 by omega)
  have q7 := eq_true (show l.length - 1 ≤ l.length by omega)
  have q8 := eq_true hc
  have q9 : l.length - (l.length - 1) = 1 := by omega
  have q3 : ((i : Int) == (i : Int) + 1) = false := beq_eq_false_iff_ne.mpr (by omega)
  go_enter Tryd.func40, Tryd.ntmps40
  have hge := Kd.N_base h r rfl
  have hlt := Kd.N_lt h r rfl
  have HI := Aside0.mk hi
  have HN := Aside0.mk (show N0 ≤ w.heap.size by omega)
  have HGE := Aside0.mk hge
  have HCC := Aside0.mk hc
  by_cases hcap : c0 = i + 1
  · subst hcap
    go_wp2_with fail
    go_region_law (first | (refine PRow_delete_step (w0 := w) (N0 := N0) (by rfl) (.tmp 22) (.tmp 25) 66 rfl Tryd.underlying66 (by kernel_rfl) (n := l.length) (k := i) (xs := l) (c := i + 1) rfl rfl ?dA ?dm ?dO HI.out ?dB ?dN ?_; (case dA => simp); (case dm => have := HCC.out; have := HI.out; omega); (case dO => exact HP.out); (case dB => exact (by repeat (first | exact Below.refl _ _ | apply pw_below_drewN | apply below_drew1))); (case dN => exact HN.out); intro w8 h8 hb8 hg8))
    have hcq : (l.length - 1) * 2 + 1 < (i + 1) * 2 := by have := HCC.out; have := HI.out; omega
    have hcl := fun (c : Nat) => clear1 w8 r ((l.length - 1) * 2) c (h8.cellAt _ (by omega)).1 (h8.cellAt _ hcq).1 (h8.cellAt _ (by omega)).2 (h8.cellAt _ hcq).2
    have H8 := Aside0.mk ((h8.spare ((l.length - 1) * 2) (Nat.le_refl _) (.int .i64 0)).spare ((l.length - 1) * 2 + 1) (by omega) (.slice none 0 0))
    have HB8 := Aside0.mk ((hb8.setCell (p := ⟨r, (l.length - 1) * 2, none⟩) HGE.out (.int .i64 0)).setCell (p := ⟨r, (l.length - 1) * 2 + 1, none⟩) HGE.out (.slice none 0 0))
    have HK8 := Aside0.mk (((Kept.of_grown hg8 (show Kept w _ (fun k => k = r) from Kept.refl w _) (fun k hk => .inl (by injection hk with hk; exact hk.symm))).setCell (p := ⟨r, (l.length - 1) * 2, none⟩) (.inl rfl) (.int .i64 0)).setCell (p := ⟨r, (l.length - 1) * 2 + 1, none⟩) (.inl rfl) (.slice none 0 0))
    clear h8 hb8 hg8 hcq
    go_wp2_with fail
    go_ret
    exact ⟨rfl, H8.out, HB8.out, HK8.out⟩
  · have hcapb := eq_false hcap
    go_wp2_with fail
    go_region_law (first | (refine PRow_delete_step (w0 := w) (N0 := N0) (by rfl) (.tmp 22) (.tmp 25) 66 rfl Tryd.underlying66 (by kernel_rfl) (n := l.length) (k := i) (xs := l) (c := c0) rfl rfl ?dA ?dm ?dO HI.out ?dB ?dN ?_; (case dA => (rw [if_neg hcap, Option.map_some, addr0])); (case dm => have := HCC.out; have := HI.out; omega); (case dO => exact HP.out); (case dB => exact (by repeat (first | exact Below.refl _ _ | apply pw_below_drewN | apply below_drew1))); (case dN => exact HN.out); intro w8 h8 hb8 hg8))
    have hcq : (l.length - 1) * 2 + 1 < c0 * 2 := by have := HCC.out; have := HI.out; omega
    have hcl := fun (c : Nat) => clear1 w8 r ((l.length - 1) * 2) c (h8.cellAt _ (by omega)).1 (h8.cellAt _ hcq).1 (h8.cellAt _ (by omega)).2 (h8.cellAt _ hcq).2
    have H8 := Aside0.mk ((h8.spare ((l.length - 1) * 2) (Nat.le_refl _) (.int .i64 0)).spare ((l.length - 1) * 2 + 1) (by omega) (.slice none 0 0))
    have HB8 := Aside0.mk ((hb8.setCell (p := ⟨r, (l.length - 1) * 2, none⟩) HGE.out (.int .i64 0)).setCell (p := ⟨r, (l.length - 1) * 2 + 1, none⟩) HGE.out (.slice none 0 0))
    have HK8 := Aside0.mk (((Kept.of_grown hg8 (show Kept w _ (fun k => k = r) from Kept.refl w _) (fun k hk => .inl (by injection hk with hk; exact hk.symm))).setCell (p := ⟨r, (l.length - 1) * 2, none⟩) (.inl rfl) (.int .i64 0)).setCell (p := ⟨r, (l.length - 1) * 2 + 1, none⟩) (.inl rfl) (.slice none 0 0))
    clear h8 hb8 hg8 hcq
    go_wp2_with fail
    go_ret
    exact ⟨rfl, H8.out, HB8.out, HK8.out⟩
end Go.Proofs.YtmpngedfnheilaaDoor.PP
