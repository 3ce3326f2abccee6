/- YtmpngedfnheilaaDoorMyViewD, as far as ViewWhole needs it (prune.py). -/
import Derived.Test.YtmpngedfnheilaaDoorViewWholeMyViewC
namespace Go.Proofs.YtmpngedfnheilaaDoor.PP
open Go.RowKit Go.Proofs.YtmpngedfnheilaaDoorW.PrintWords Go.Proofs.YtmpngedfnheilaaDoorW.PrintLast Go.Proofs.YtmpngedfnheilaaDoorW.PrintMore
open Go.Proofs.YtmpngedfnheilaaDoor.My
set_option linter.unusedVariables false
set_option linter.unusedSimpArgs false
/-- The row of a View's places. -/
def PRow (w : World) (N0 : Nat) (v : Value) (l : List Pl) : Prop := Kd.N k74 74 w N0 (fun k => T9 w k ∨ v.ownBlock = some k) v l
section
variable {N0 : Nat} {w w' W : World} {g : Nat} {v v1 : Value} {l : List Pl} {top : Int}
theorem T9_ne {k t : Nat} {c : Array Value} (h : T9 w k) (hb : w.heap[g]? = some (.cells c t (0, 0))) (ht : 9 ≠ t) : k ≠ g := by
  rintro rfl
  obtain ⟨c2, h⟩ := h
  rw [h] at hb
  injection hb with hb
  injection hb with _ hb _
  exact ht hb
theorem PRow.ne9 (h : PRow w N0 v l) {k : Nat} (hk : T9 w k) : some k ≠ v.ownBlock := by
  obtain ⟨c, hc⟩ := hk
  exact Kd.N_ne h hc (by decide)
theorem PRow.keep (h : PRow w N0 v l) (hr : ∀ k, v.ownBlock = some k → w'.heap[k]? = w.heap[k]?) (ht : ∀ k, T9 w k → w'.heap[k]? = w.heap[k]?) : PRow w' N0 v l :=
  Kd.N_mono (Kd.N_step h (fun k hk _ => hk.elim (ht k) (hr k))) (fun k hk => hk.imp (fun ⟨c, hc⟩ => ⟨c, (ht k ⟨c, hc⟩).trans hc⟩) id)
/-- By elements: each leads to rows of texts alone. -/
theorem PRow.rows (h : PRow w N0 v l) : ∃ rows : List (List Value), rows.length = l.length ∧ (Kd.raw 2).R 74 w N0 (fun k => some k = v.ownBlock) v rows ∧ ∀ (j : Nat) (x : Pl) (c : List Value), l[j]? = some x → rows[j]? = some c → Kd.FK k74 w (T9 w) x c := by
  have hn := fun k (hk : T9 w k) => h.ne9 hk
  obtain ⟨_, rows, hl, hR, hf⟩ := h
  exact ⟨rows, hl, hR, fun j x c hx hc => Kd.FK_mono (hf j x c hx hc) (fun k hk => hk.1.elim id (fun e => absurd e.symm hk.2))⟩
theorem PRow.mk {rows : List (List Value)} (hl : rows.length = l.length) (hR : (Kd.raw 2).R 74 w N0 (fun _ => True) v rows) (hf : ∀ (j : Nat) (x : Pl) (c : List Value), l[j]? = some x → rows[j]? = some c → Kd.FK k74 w (T9 w) x c) : PRow w N0 v l := by
  refine ⟨fun k hk => .inr hk, rows, hl, Kd.raw_tight hR, fun j x c hx hc => Kd.FK_mono (hf j x c hx hc) (fun k hk => ⟨.inl hk, ?_⟩)⟩
  obtain ⟨c2, hc2⟩ := hk
  exact Kd.R_ne hR hc2 (by decide)
/-- What leads to rows of texts alone, in a later world. -/
theorem FK9_step {x : Pl} {c : List Value} (h : Kd.FK k74 w (T9 w) x c) (ht : ∀ k, T9 w k → w'.heap[k]? = w.heap[k]?) : Kd.FK k74 w' (T9 w') x c :=
  Kd.FK_mono (Kd.FK_step h (fun k hk _ => ht k hk)) (fun k ⟨c, hc⟩ => ⟨c, (ht k ⟨c, hc⟩).trans hc⟩)
/-- The flags of a place, as search.Flags hands them back. -/
theorem FK9_mk {vf : Value} {uid : Int} {fs : List ByteArray} {base : Nat} (h : Kd.R Kd.string 9 w base (fun _ => True) vf fs) : Kd.FK k74 w (T9 w) (⟨uid, fs⟩ : Pl) [.int .i64 uid, vf] := by
  have ho := Kd.own_of_R h
  exact Kd.FK_of_M (k74_mkM w base (T9 w) (⟨uid, fs⟩ : Pl) (Kd.R_of_own ho (fun k hk => Kd.R_typed h k hk)))
theorem VW.prow (h : VW N0 w g v l top) : PRow w N0 v l := h.row
theorem VW.set0 (hb : w.heap[g]? = some (.cells #[v, .int .i64 top] 70 (0, 0))) (hg : N0 ≤ g) (hr : PRow w N0 v1 l) : VW N0 (w.setCell ⟨g, 0, none⟩ v1) g v1 l top := by
  have hne : ∀ k, k ≠ g → (w.setCell ⟨g, 0, none⟩ v1).heap[k]? = w.heap[k]? := fun k hk => Below.heap_setCell w ⟨g, 0, none⟩ v1 k hk
  refine ⟨(blk_set hb 0 v1).trans ?_, hg, hr.keep (fun k hk => hne k ?_) (fun k hk => hne k (T9_ne hk hb (by decide)))⟩
  · simp
  · rintro rfl
    exact Kd.N_ne hr hb (by decide) hk.symm
theorem VW.set1 (h : VW N0 w g v l top) (u : Int) : VW N0 (w.setCell ⟨g, 1, none⟩ (.int .i64 u)) g v l u := by
  have hne : ∀ k, k ≠ g → (w.setCell ⟨g, 1, none⟩ (.int .i64 u)).heap[k]? = w.heap[k]? := fun k hk => Below.heap_setCell w ⟨g, 1, none⟩ _ k hk
  refine ⟨(blk_set h.blk 1 _).trans ?_, h.ge, h.prow.keep (fun k hk => hne k ?_) (fun k hk => hne k (T9_ne hk h.blk (by decide)))⟩
  · simp
  · rintro rfl
    exact Kd.N_ne h.prow h.blk (by decide) hk.symm
end
section
variable {P : Program} {ops : Array Oper} {o : Oper} {a : Act} {Q : Exit → Act → World → Prop} {Kc : Act → World → Prop}
theorem PRow_append_step {w0 W : World} {N0 : Nat} (hw : Region.wanted o (yielded ops a.tmps) = true) (s x : Operand) (t : TypeId) (z : Value) (bytes : Nat)
    (ho : o.op = .call { callee := .builtin .append, args := #[s, x], argTypes := #[t, t] })
    (ht : P.underlying t = some (.slice 74)) (hinfo : (P.info? 74).map (fun i => (i.zero, i.size, i.bytes)) = some (some z, 2, bytes)) (hz : z.cells.size = 2) (hb0 : 0 < bytes)
    (v : Value) (xs : List Pl) (p : Pl) (cs : List Value) (hs : a.eval s = v) (hx : a.eval x = .slice (some ⟨W.heap.size, 0, none⟩) 1 1) (hp : Kd.FK k74 W (T9 W) p cs)
    (HO : PRow W N0 v xs) (HB : Below N0 w0 W) (hbase : N0 ≤ W.heap.size) (hl : (xs.length + 1) * bytes ≤ 140737488355328)
    (h : ∀ v1 w1, PRow w1 N0 v1 (xs ++ [p]) → Below N0 w0 w1 → W.grownBy w1 v.ownBlock → (v1.ownBlock = v.ownBlock ∨ ∃ b, v1.ownBlock = some b ∧ W.heap.size ≤ b) → Kc (a.put o.dst v1) w1) :
    if Region.wanted o (yielded ops a.tmps) = true then Oper.wp P o a (W.alloc (.cells cs.toArray 74)) Kc Q else Kc (a.put o.dst undef) (W.alloc (.cells cs.toArray 74)) := by
  have hn := fun k (hk : T9 W k) => HO.ne9 hk
  obtain ⟨rows, hlr, hR, hf⟩ := HO.rows
  refine Kd.R_append_step (Kd.raw 2) N0 hw s x t 74 z bytes ho ht hinfo hz (by decide) hb0 v rows cs cs (fun _ => True) (fun _ => False) hs hx (Kd.FK_raw hp) (fun _ hk => hk.elim) (fun _ _ => trivial) (Kd.raw_any hR) HB hbase (by rw [hlr]; exact hl) ?_
  intro v1 w1 hr hb hg hat
  have ht9 : ∀ k, T9 W k → w1.heap[k]? = W.heap[k]? := fun k hk => hg.block k hk.lt (hn k hk)
  refine h v1 w1 (PRow.mk (rows := rows ++ [cs]) (by simp [hlr]) hr (fun j y c hy hc => ?_)) hb hg hat
  by_cases hj : j < xs.length
  · rw [List.getElem?_append_left hj] at hy
    rw [List.getElem?_append_left (by omega)] at hc
    exact FK9_step (hf j y c hy hc) ht9
  · rw [List.getElem?_append_right (by omega)] at hy hc
    rw [hlr] at hc
    rcases hjj : j - xs.length with _ | m
    · rw [hjj] at hy hc
      simp only [List.getElem?_cons_zero, Option.some.injEq] at hy hc
      rw [← hy, ← hc]
      exact FK9_step hp ht9
    · rw [hjj] at hy
      simp at hy
end
end Go.Proofs.YtmpngedfnheilaaDoor.PP
