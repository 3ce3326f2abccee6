/- YtmpngedfnheilaaDoorMyViewJ, as far as ViewWhole needs it (prune.py). -/
import Derived.Test.YtmpngedfnheilaaDoorViewWholeMyViewI
namespace Go.Proofs.YtmpngedfnheilaaDoor.PP
open Go.RowKit Go.Proofs.YtmpngedfnheilaaDoorW.PrintWords Go.Proofs.YtmpngedfnheilaaDoorW.PrintLast Go.Proofs.YtmpngedfnheilaaDoorW.PrintMore
open Go.Proofs.YtmpngedfnheilaaDoor.My
set_option linter.unusedVariables false
set_option linter.unusedSimpArgs false
/-- Cells behind the places are the row's own. -/
theorem PRow.spare {W : World} {N0 r n cap : Nat} {l : List Pl} (h : PRow W N0 (.slice (some ⟨r, 0, none⟩) n cap) l) (q : Nat) (hq : n * 2 ≤ q) (u : Value) : PRow (W.setCell ⟨r, q, none⟩ u) N0 (.slice (some ⟨r, 0, none⟩) n cap) l := by
  have hn := fun k (hk : T9 W k) => h.ne9 hk
  obtain ⟨rows, hrl, hR, hf⟩ := h.rows
  have hh : ∀ k, k ≠ r → (W.setCell ⟨r, q, none⟩ u).heap[k]? = W.heap[k]? := fun k hk => Below.heap_setCell W ⟨r, q, none⟩ u k hk
  refine PRow.mk hrl ?_ (fun j x c hx hc => FK9_step (hf j x c hx hc) (fun k hk => hh k (fun e => hn k hk (by rw [e]; rfl))))
  have hnn : n = rows.length := (Kd.R_reads' hR).1
  obtain ⟨h0, inner, ⟨hl, ho⟩, hr⟩ := hR
  refine ⟨fun _ _ => trivial, inner, ⟨hl, ?_⟩, hr⟩
  rcases ho with ⟨ho, _⟩ | ⟨g, cap', cur, e, hb, hh, h1, h2, h3, h4⟩
  · cases ho
  · injection e with e1 _ e3
    injection e1 with e1
    injection e1 with e1
    subst e1
    subst e3
    refine .inr ⟨r, cap, cur.setIfInBounds q u, by rw [← hnn], hb, blk_set hh q u, h1, h2, by simpa using h3, ?_⟩
    rw [← h4]
    apply List.ext_getElem?
    intro j
    simp only [List.getElem?_take]
    split
    · rename_i hj
      have : q ≠ j := by
        have h5 : rows.length * (Kd.raw 2).sz = n * 2 := by rw [← hnn]; rfl
        omega
      rw [Array.getElem?_toList, Array.getElem?_toList, Array.getElem?_setIfInBounds_ne this]
    · rfl
theorem PRow.cellAt {W : World} {N0 r n cap : Nat} {l : List Pl} (h : PRow W N0 (.slice (some ⟨r, 0, none⟩) n cap) l) (q : Nat) (hq : q < cap * 2) : (W.cell? ⟨r, q, none⟩).isSome = true ∧ W.frozen? ⟨r, q, none⟩ = false := by
  obtain ⟨rows, hrl, hR, hf⟩ := h.rows
  obtain ⟨h0, inner, ⟨hl, ho⟩, hr⟩ := hR
  rcases ho with ⟨ho, _⟩ | ⟨g, cap', cur, e, hb, hh, h1, h2, h3, h4⟩
  · cases ho
  · injection e with e1 _ e3
    injection e1 with e1
    injection e1 with e1
    subst e1
    subst e3
    have h3' : cur.size = cap * 2 := h3
    exact ⟨by rw [blk_cell hh]; simp [h3', hq], blk_frozen hh q⟩
section
variable {P : Program} {ops : Array Oper} {o : Oper} {a : Act} {Q : Exit → Act → World → Prop} {Kc : Act → World → Prop}
theorem PRow_delete_step {w0 W : World} {N0 : Nat} (hw : Region.wanted o (yielded ops a.tmps) = true) (s x : Operand) (t : TypeId) (ho : o.op = .call { callee := .builtin .append, args := #[s, x], argTypes := #[t, t] })
    (ht : P.underlying t = some (.slice 74)) (hinfo : (P.info? 74).map (·.size) = some 2) {g n c k m c2 : Nat} {A : Option Addr} {xs : List Pl}
    (hs : a.eval s = .slice (some ⟨g, 0, none⟩) k c) (hx : a.eval x = .slice A m c2) (hA : A = if c = k + 1 then some ⟨g, 0, none⟩ else (some (⟨g, 0, none⟩ : Addr)).map (·.add ((k + 1) * 2))) (hm : m = n - (k + 1))
    (HO : PRow W N0 (.slice (some ⟨g, 0, none⟩) n c) xs) (hk : k < n) (HB : Below N0 w0 W) (hbase : N0 ≤ W.heap.size)
    (h : ∀ w1, PRow w1 N0 (.slice (some ⟨g, 0, none⟩) (n - 1) c) (xs.eraseIdx k) → Below N0 w0 w1 → W.grownBy w1 (some g) → Kc (a.put o.dst (.slice (some ⟨g, 0, none⟩) (n - 1) c)) w1) :
    if Region.wanted o (yielded ops a.tmps) = true then Oper.wp P o a W Kc Q else Kc (a.put o.dst undef) W := by
  have hn := fun k (hk : T9 W k) => HO.ne9 hk
  refine Kd.N_delete_step k74 N0 hw s x t 74 ho ht hinfo hs hx hA hm HO hk HB hbase (fun w1 h1 hb hg => h w1 (Kd.N_mono h1 (fun k hk => hk.imp (fun hk => ?_) id)) hb hg)
  obtain ⟨c, hc⟩ := hk
  exact ⟨c, (hg.block k (T9.lt ⟨c, hc⟩) (fun e => hn k ⟨c, hc⟩ (by rw [e]; rfl))).trans hc⟩
end
theorem zero_place (w : World) : (zeroValue 74).run Tryd.prog w = .ok (.agg #[.int .i64 0, .slice none 0 0]) w := by kernel_rfl
theorem clear1 (W : World) (r q c : Nat) (h0 : (W.cell? ⟨r, q, none⟩).isSome = true) (h1 : (W.cell? ⟨r, q + 1, none⟩).isSome = true) (f0 : W.frozen? ⟨r, q, none⟩ = false) (f1 : W.frozen? ⟨r, q + 1, none⟩ = false) :
    (Builtin.clear_ #[66] 0 #[.slice (some ⟨r, q, none⟩) 1 c]).run Tryd.prog W = .ok (.tuple #[]) ((W.setCell ⟨r, q, none⟩ (.int .i64 0)).setCell ⟨r, q + 1, none⟩ (.slice none 0 0)) := by
  have hz : (Builtin.zeroCells (Value.agg #[.int .i64 0, .slice none 0 0]).cells 1).toList = [.int .i64 0, .slice none 0 0] := by kernel_rfl
  have hst := run_storeCells_cells (P := Tryd.prog) r q [.int .i64 0, .slice none 0 0] 0 W (fun j hj => by
    rcases j with _ | _ | j
    · exact h0
    · exact h1
    · simp at hj; omega) (fun j hj => by
    rcases j with _ | _ | j
    · exact f0
    · exact f1
    · simp at hj; omega) (fun v hv => by
    rcases List.mem_cons.1 hv with rfl | hv
    · rfl
    · rcases List.mem_cons.1 hv with rfl | hv
      · rfl
      · cases hv)
  simp only [Nat.add_zero] at hst
  simp [Builtin.clear_, run_underlying Tryd.underlying66, zero_place, hz, hst]
  rfl
set_option maxHeartbeats 4000000 in
set_option maxRecDepth 100000 in
theorem placeDelete_ok (N0 r c0 : Nat) (l : List Pl) (i : Nat) (w : World) (h : PRow w N0 (.slice (some ⟨r, 0, none⟩) l.length c0) l) (hl : l.length ≤ 1000000000) (hi : i < l.length) :
    Calls Tryd.prog 40 #[.slice (some ⟨r, 0, none⟩) l.length c0, .int .i64 i, .int .i64 ((i : Int) + 1)] w fun e w' => e = .returned (.slice (some ⟨r, 0, none⟩) (l.length - 1) c0) ∧ PRow w' N0 (.slice (some ⟨r, 0, none⟩) (l.length - 1) c0) (l.eraseIdx i) ∧ Below N0 w w' ∧ Kept w w' (fun k => k = r) := by
  have HP := Aside0.mk h
  have HL := Aside0.mk hl
  obtain ⟨_, hc, _⟩ := Kd.N_reads' h
  have q1 : (i : Int) ≤ (i : Int) + 1 := by omega
  have q2 : (i : Int) + 1 ≤ (l.length : Int) := by omega
  have q4 := eq_true (show (0 : Int) ≤ (i : Int) + 1 by omega)
  have q5 := eq_true q2
  have q6 := eq_true (show i ≤ c0 by omega)
  have q7 := eq_true (show l.length - 1 ≤ l.length by omega)
  have q8 := eq_true hc
  have q9 : l.length - (l.length - 1) = 1 := by omega
  have q3 : ((i : Int) == (i : Int) + 1) = false := beq_eq_false_iff_ne.mpr (by omega)
  go_enter Tryd.func40, Tryd.ntmps40
  have hge := Kd.N_base h r rfl
  have hlt := Kd.N_lt h r rfl
  have HI := Aside0.mk hi
  have HN := Aside0.mk (show N0 ≤ w.heap.size by omega)
  have HGE := Aside0.mk hge
  have HCC := Aside0.mk hc
  by_cases hcap : c0 = i + 1
  · subst hcap
    go_wp2_with fail
    go_region_law (first | (refine PRow_delete_step (w0 := w) (N0 := N0) (by rfl) (.tmp 22) (.tmp 25) 66 rfl Tryd.underlying66 (by kernel_rfl) (n := l.length) (k := i) (xs := l) (c := i + 1) rfl rfl ?dA ?dm ?dO HI.out ?dB ?dN ?_; (case dA => simp); (case dm => have := HCC.out; have := HI.out; omega); (case dO => exact HP.out); (case dB => exact (by repeat (first | exact Below.refl _ _ | apply pw_below_drewN | apply below_drew1))); (case dN => exact HN.out); intro w8 h8 hb8 hg8))
    have hcq : (l.length - 1) * 2 + 1 < (i + 1) * 2 := by have := HCC.out; have := HI.out; omega
    have hcl := fun (c : Nat) => clear1 w8 r ((l.length - 1) * 2) c (h8.cellAt _ (by omega)).1 (h8.cellAt _ hcq).1 (h8.cellAt _ (by omega)).2 (h8.cellAt _ hcq).2
    have H8 := Aside0.mk ((h8.spare ((l.length - 1) * 2) (Nat.le_refl _) (.int .i64 0)).spare ((l.length - 1) * 2 + 1) (by omega) (.slice none 0 0))
    have HB8 := Aside0.mk ((hb8.setCell (p := ⟨r, (l.length - 1) * 2, none⟩) HGE.out (.int .i64 0)).setCell (p := ⟨r, (l.length - 1) * 2 + 1, none⟩) HGE.out (.slice none 0 0))
    have HK8 := Aside0.mk (((Kept.of_grown hg8 (show Kept w _ (fun k => k = r) from Kept.refl w _) (fun k hk => .inl (by injection hk with hk; exact hk.symm))).setCell (p := ⟨r, (l.length - 1) * 2, none⟩) (.inl rfl) (.int .i64 0)).setCell (p := ⟨r, (l.length - 1) * 2 + 1, none⟩) (.inl rfl) (.slice none 0 0))
    clear h8 hb8 hg8 hcq
    go_wp2_with fail
    go_ret
    exact ⟨rfl, H8.out, HB8.out, HK8.out⟩
  · have hcapb := eq_false hcap
    go_wp2_with fail
    go_region_law (first | (refine PRow_delete_step (w0 := w) (N0 := N0) (by rfl) (.tmp 22) (.tmp 25) 66 rfl Tryd.underlying66 (by kernel_rfl) (n := l.length) (k := i) (xs := l) (c := c0) rfl rfl ?dA ?dm ?dO HI.out ?dB ?dN ?_; (case dA => (rw [if_neg hcap, Option.map_some, addr0])); (case dm => have := HCC.out; have := HI.out; omega); (case dO => exact HP.out); (case dB => exact (by repeat (first | exact Below.refl _ _ | apply pw_below_drewN | apply below_drew1))); (case dN => exact HN.out); intro w8 h8 hb8 hg8))
    have hcq : (l.length - 1) * 2 + 1 < c0 * 2 := by have := HCC.out; have := HI.out; omega
    have hcl := fun (c : Nat) => clear1 w8 r ((l.length - 1) * 2) c (h8.cellAt _ (by omega)).1 (h8.cellAt _ hcq).1 (h8.cellAt _ (by omega)).2 (h8.cellAt _ hcq).2
    have H8 := Aside0.mk ((h8.spare ((l.length - 1) * 2) (Nat.le_refl _) (.int .i64 0)).spare ((l.length - 1) * 2 + 1) (by omega) (.slice none 0 0))
    have HB8 := Aside0.mk ((hb8.setCell (p := ⟨r, (l.length - 1) * 2, none⟩) HGE.out (.int .i64 0)).setCell (p := ⟨r, (l.length - 1) * 2 + 1, none⟩) HGE.out (.slice none 0 0))
    have HK8 := Aside0.mk (((Kept.of_grown hg8 (show Kept w _ (fun k => k = r) from Kept.refl w _) (fun k hk => .inl (by injection hk with hk; exact hk.symm))).setCell (p := ⟨r, (l.length - 1) * 2, none⟩) (.inl rfl) (.int .i64 0)).setCell (p := ⟨r, (l.length - 1) * 2 + 1, none⟩) (.inl rfl) (.slice none 0 0))
    clear h8 hb8 hg8 hcq
    go_wp2_with fail
    go_ret
    exact ⟨rfl, H8.out, HB8.out, HK8.out⟩
end Go.Proofs.YtmpngedfnheilaaDoor.PP
