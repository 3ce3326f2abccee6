/- YtmpngedfnheilaaDoorMyViewQ, as far as ViewPlays needs it (prune.py). -/
import Derived.Test.YtmpngedfnheilaaDoorViewPlaysMyViewJ
import Derived.Test.YtmpngedfnheilaaDoorViewPlaysMyMapI
namespace Go.Proofs.YtmpngedfnheilaaDoor.PP
open Go.RowKit Go.Proofs.YtmpngedfnheilaaDoorW.PrintWords Go.Proofs.YtmpngedfnheilaaDoorW.PrintLast Go.Proofs.YtmpngedfnheilaaDoorW.PrintMore
open Go.Proofs.YtmpngedfnheilaaDoor.My
set_option linter.unusedVariables false
set_option linter.unusedSimpArgs false
def TN {α : Type} (d : Kd α) (e : TypeId) (w : World) (N0 : Nat) (v : Value) (l : List α) : Prop := Kd.N d e w N0 (fun k => T9 w k ∨ v.ownBlock = some k) v l
section
variable {α : Type} {d : Kd α} {e : TypeId} {N0 N1 : Nat} {w w' W : World} {v v1 : Value} {l : List α}
theorem TN.ne9 (he : e ≠ 9) (h : TN d e w N0 v l) {k : Nat} (hk : T9 w k) : some k ≠ v.ownBlock := by
  obtain ⟨c, hc⟩ := hk
  exact Kd.N_ne h hc he
theorem TN.keep (h : TN d e w N0 v l) (hr : ∀ k, v.ownBlock = some k → w'.heap[k]? = w.heap[k]?) (ht : ∀ k, T9 w k → w'.heap[k]? = w.heap[k]?) : TN d e w' N0 v l :=
  Kd.N_mono (Kd.N_step h (fun k hk _ => hk.elim (ht k) (hr k))) (fun k hk => hk.imp (fun ⟨c, hc⟩ => ⟨c, (ht k ⟨c, hc⟩).trans hc⟩) id)
theorem TN.below (h : TN d e w N0 v l) (hb : Below w.heap.size w w') : TN d e w' N0 v l := h.keep (fun k hk => hb.block k (Kd.N_lt h k hk)) (fun k hk => hb.block k hk.lt)
theorem TN.drewN (h : TN d e w N0 v l) (n : Nat) : TN d e (w.drewN n) N0 v l := h.below (pw_below_drewN (Below.refl _ _) n)
theorem TN.drew (h : TN d e w N0 v l) : TN d e w.drew N0 v l := h.below (below_drew (Below.refl _ _))
theorem TN.alloc (h : TN d e w N0 v l) (o : Obj) : TN d e (w.alloc o) N0 v l := h.below (below_alloc (Below.refl _ _) o)
theorem TN.nil (d : Kd α) (e : TypeId) (w : World) (N0 : Nat) : TN d e w N0 (.slice none 0 0) [] := Kd.N_nil _ _ _ _ _
theorem TN.lower (h : TN d e w N1 v l) (hn : N0 ≤ N1) : TN d e w N0 v l := Kd.N_lower h hn
theorem TN.slice (h : TN d e w N0 v l) : ∃ A c, v = .slice A l.length c ∧ l.length ≤ c ∧ Kd.C d w A l.length l := by
  obtain ⟨A, c, rfl⟩ := Kd.N_slice h
  exact ⟨A, c, rfl, (Kd.N_reads' h).2.1, (Kd.N_reads' h).2.2⟩
/-- Blocks that are of no such type (nor the row's) may change. -/
theorem TN.kept {S : Nat → Prop} (he : e ≠ 9) (h : TN d e w N0 v l) (hk : Kept w w' S) (h9 : ∀ k, T9 w k → ¬ S k) (hr : ∀ k, v.ownBlock = some k → ¬ S k) : TN d e w' N0 v l :=
  h.keep (fun k e => hk.2 k (Kd.N_lt h k e) (hr k e)) (fun k ht => hk.2 k ht.lt (h9 k ht))
theorem TN.ne (h : TN d e w N0 v l) {k t : Nat} {c : Array Value} (hb : w.heap[k]? = some (.cells c t (0, 0))) (ht : e ≠ t) : some k ≠ v.ownBlock := Kd.N_ne h hb ht
theorem TN.rows (he : e ≠ 9) (h : TN d e w N0 v l) : ∃ rows : List (List Value), rows.length = l.length ∧ (Kd.raw d.sz).R e w N0 (fun k => some k = v.ownBlock) v rows ∧ ∀ (j : Nat) (x : α) (c : List Value), l[j]? = some x → rows[j]? = some c → Kd.FK d w (T9 w) x c := by
  have hn := fun k (hk : T9 w k) => h.ne9 he hk
  obtain ⟨_, rows, hl, hR, hf⟩ := h
  exact ⟨rows, hl, hR, fun j x c hx hc => Kd.FK_mono (hf j x c hx hc) (fun k hk => hk.1.elim id (fun e => absurd e.symm hk.2))⟩
theorem TN.mk (he : e ≠ 9) {rows : List (List Value)} (hl : rows.length = l.length) (hR : (Kd.raw d.sz).R e w N0 (fun _ => True) v rows) (hf : ∀ (j : Nat) (x : α) (c : List Value), l[j]? = some x → rows[j]? = some c → Kd.FK d w (T9 w) x c) : TN d e w N0 v l := by
  refine ⟨fun k hk => .inr hk, rows, hl, Kd.raw_tight hR, fun j x c hx hc => Kd.FK_mono (hf j x c hx hc) (fun k hk => ⟨.inl hk, ?_⟩)⟩
  obtain ⟨c2, hc2⟩ := hk
  exact Kd.R_ne hR hc2 he
theorem FK9_stepd {x : α} {c : List Value} (h : Kd.FK d w (T9 w) x c) (ht : ∀ k, T9 w k → w'.heap[k]? = w.heap[k]?) : Kd.FK d w' (T9 w') x c :=
  Kd.FK_mono (Kd.FK_step h (fun k hk _ => ht k hk)) (fun k ⟨c, hc⟩ => ⟨c, (ht k ⟨c, hc⟩).trans hc⟩)
theorem TN.snoc (he : e ≠ 9) {rows : List (List Value)} {p : α} {cs : List Value} {w1 : World} (h9 : ∀ k, T9 W k → w1.heap[k]? = W.heap[k]?) (hlr : rows.length = l.length) (hf : ∀ (j : Nat) (x : α) (c : List Value), l[j]? = some x → rows[j]? = some c → Kd.FK d W (T9 W) x c)
    (hp : Kd.FK d W (T9 W) p cs) (hr : (Kd.raw d.sz).R e w1 N0 (fun _ => True) v1 (rows ++ [cs])) : TN d e w1 N0 v1 (l ++ [p]) := by
  refine TN.mk he (rows := rows ++ [cs]) (by simp [hlr]) hr (fun j y c hy hc => ?_)
  by_cases hj : j < l.length
  · rw [List.getElem?_append_left hj] at hy
    rw [List.getElem?_append_left (by omega)] at hc
    exact FK9_stepd (hf j y c hy hc) h9
  · rw [List.getElem?_append_right (by omega)] at hy hc
    rw [hlr] at hc
    rcases hjj : j - l.length with _ | m
    · rw [hjj] at hy hc
      simp only [List.getElem?_cons_zero, Option.some.injEq] at hy hc
      rw [← hy, ← hc]
      exact FK9_stepd hp h9
    · rw [hjj] at hy
      simp at hy
end
section
variable {P : Program} {ops : Array Oper} {rest : List Oper} {o : Oper} {a : Act} {Q : Exit → Act → World → Prop} {Kc : Act → World → Prop} {α : Type} {e : TypeId}
theorem TN_append (d : Kd α) (he : e ≠ 9) {w0 W : World} {N0 : Nat} (hgd : o.guard = none) (s x : Operand) (t : TypeId) (z : Value) (bytes : Nat)
    (ho : o.op = .call { callee := .builtin .append, args := #[s, x], argTypes := #[t, t] })
    (ht : P.underlying t = some (.slice e)) (hinfo : (P.info? e).map (fun i => (i.zero, i.size, i.bytes)) = some (some z, d.sz, bytes)) (hz : z.cells.size = d.sz) (hs0 : 0 < d.sz) (hb0 : 0 < bytes)
    (v : Value) (xs : List α) (p : α) (cs : List Value) (hs : a.eval s = v) (hx : a.eval x = .slice (some ⟨W.heap.size, 0, none⟩) 1 1) (hp : Kd.FK d W (T9 W) p cs)
    (HO : TN d e W N0 v xs) (HB : Below N0 w0 W) (hbase : N0 ≤ W.heap.size) (hl : (xs.length + 1) * bytes ≤ 140737488355328)
    (h : ∀ v1 w1, TN d e w1 N0 v1 (xs ++ [p]) → Below N0 w0 w1 → W.grownBy w1 v.ownBlock → (v1.ownBlock = v.ownBlock ∨ ∃ b, v1.ownBlock = some b ∧ W.heap.size ≤ b) → wpList P ops Q rest (a.put o.dst v1) w1) :
    wpList P ops Q (o :: rest) a (W.alloc (.cells cs.toArray e)) := by
  have hn := fun k (hk : T9 W k) => HO.ne9 he hk
  obtain ⟨rows, hlr, hR, hf⟩ := HO.rows he
  refine Kd.R_append (Kd.raw d.sz) N0 hgd s x t e z bytes ho ht hinfo hz hs0 hb0 v rows cs cs (fun _ => True) (fun _ => False) hs hx (Kd.FK_raw hp) (fun _ hk => hk.elim) (fun _ _ => trivial) (Kd.raw_any hR) HB hbase (by rw [hlr]; exact hl) ?_
  intro v1 w1 hr hb hg hat
  exact h v1 w1 (TN.snoc he (fun k hk => hg.block k hk.lt (hn k hk)) hlr hf hp hr) hb hg hat
end
def Chg (T : List TypeId) (w w' : World) : Prop := w.heap.size ≤ w'.heap.size ∧ ∀ (k : Nat) (o : Obj), w.heap[k]? = some o → (∀ c t f, o = Obj.cells c t f → t ∉ T) → w'.heap[k]? = some o
section
variable {T T2 : List TypeId} {w w' w'' : World}
theorem Chg.refl (T : List TypeId) (w : World) : Chg T w w := ⟨Nat.le_refl _, fun _ _ h _ => h⟩
theorem Chg.trans (h : Chg T w w') (k : Chg T w' w'') : Chg T w w'' := ⟨Nat.le_trans h.1 k.1, fun i o hi ho => k.2 i o (h.2 i o hi ho) ho⟩
theorem Chg.mono (h : Chg T w w') (hT : ∀ t, t ∈ T → t ∈ T2) : Chg T2 w w' := ⟨h.1, fun i o hi ho => h.2 i o hi (fun c t f e ht => ho c t f e (hT t ht))⟩
theorem Chg.of_below (h : Below w.heap.size w w') : Chg T w w' := ⟨h.size, fun k o hk _ => (h.block k (Array.getElem?_eq_some_iff.1 hk).1).trans hk⟩
theorem Chg.below (h : Chg T w w') (hb : Below w'.heap.size w' w'') : Chg T w w'' := h.trans (Chg.of_below hb)
theorem Chg.drewN (h : Chg T w w') (n : Nat) : Chg T w (w'.drewN n) := h
theorem Chg.drew (h : Chg T w w') : Chg T w w'.drew := h
theorem Chg.alloc (h : Chg T w w') (o : Obj) : Chg T w (w'.alloc o) := h.below (below_alloc (Below.refl _ _) o)
theorem Chg.of_kept {S : Nat → Prop} (hk : Kept w w' S) (hS : ∀ k, S k → ∀ o : Obj, w.heap[k]? = some o → ∃ c t f, o = Obj.cells c t f ∧ t ∈ T) : Chg T w w' :=
  ⟨hk.1, fun k o hko ho => (hk.2 k (Array.getElem?_eq_some_iff.1 hko).1 (fun hs => by obtain ⟨c, t, f, e, ht⟩ := hS k hs o hko; exact ho c t f e ht)).trans hko⟩
theorem Chg.setCell {p : Addr} {c : Array Value} {t : TypeId} {f : Nat × Nat} (hb : w.heap[p.block]? = some (.cells c t f)) (ht : t ∈ T) (u : Value) : Chg T w (w.setCell p u) :=
  Chg.of_kept (S := fun k => k = p.block) ⟨by simp [World.setCell], fun i _ hn => Below.heap_setCell w p u i hn⟩ (fun k hk o ho => by rw [hk, hb] at ho; exact ⟨c, t, f, (Option.some.inj ho).symm, ht⟩)
theorem Chg.grown (h : Chg T w w') {row : Option Nat} (hg : w'.grownBy w'' row) (hr : ∀ k, row = some k → w.heap.size ≤ k) : Chg T w w'' :=
  ⟨Nat.le_trans h.1 hg.size, fun k o hk ho => by
    have hlt := (Array.getElem?_eq_some_iff.1 hk).1
    exact (hg.block k (Nat.lt_of_lt_of_le hlt h.1) (fun e => by have := hr k e.symm; omega)).trans (h.2 k o hk ho)⟩
theorem Chg.t9 (h : Chg T w w') (h9 : 9 ∉ T) {k : Nat} (hk : T9 w k) : w'.heap[k]? = w.heap[k]? := by
  obtain ⟨c, hc⟩ := hk
  exact (h.2 k _ hc (fun c t f e => by injection e with _ e _; rw [← e]; exact h9)).trans hc.symm
theorem Chg.cells (h : Chg T w w') {k t : Nat} {c : Array Value} {f : Nat × Nat} (hk : w.heap[k]? = some (.cells c t f)) (ht : t ∉ T) : w'.heap[k]? = some (.cells c t f) := h.2 k _ hk (fun c t f e => by injection e with _ e _; rw [← e]; exact ht)
theorem Chg.mi (h : Chg T w w') {b : Nat} {ps : List (Int × Value)} (hm : MI w b ps) : MI w' b ps := by
  obtain ⟨es, hb, he⟩ := hm
  exact ⟨es, h.2 b _ hb (fun c t f e => by cases e), he⟩
theorem TN.chg {α : Type} {d : Kd α} {e : TypeId} {N0 : Nat} {v : Value} {l : List α} (h : TN d e w N0 v l) (hc : Chg T w w') (h9 : 9 ∉ T) (he : e ∉ T) : TN d e w' N0 v l :=
  h.keep (fun k hk => by obtain ⟨c, hb⟩ := Kd.N_typed h k hk; exact (hc.cells hb he).trans hb.symm) (fun k hk => hc.t9 h9 hk)
theorem R9.chg {base : Nat} {v : Value} {fs : List ByteArray} (h : Kd.R Kd.string 9 w base (fun _ => True) v fs) (hc : Chg T w w') (h9 : 9 ∉ T) : Kd.R Kd.string 9 w' base (fun _ => True) v fs :=
  Kd.R_mono (Kd.R_step (Kd.R_of_own (Kd.own_of_R h) (fun k hk => (Kd.R_typed h k hk : T9 w k))) (fun k hk _ => hc.t9 h9 hk)) (fun _ _ => trivial)
end
/-- A View's types. -/
abbrev TV : List TypeId := [70, 74]
theorem VW.typed {w : World} {N0 g : Nat} {v : Value} {l : List Pl} {top : Int} (h : VW N0 w g v l top) : ∀ k, VS g v k → ∀ o : Obj, w.heap[k]? = some o → ∃ c t f, o = Obj.cells c t f ∧ t ∈ TV := by
  rintro k (rfl | hk) o ho
  · rw [h.blk] at ho
    exact ⟨_, _, _, (Option.some.inj ho).symm, by decide⟩
  · obtain ⟨c, hb⟩ := Kd.N_typed h.row k hk
    rw [hb] at ho
    exact ⟨_, _, _, (Option.some.inj ho).symm, by decide⟩
theorem VW.chg {w w' : World} {N0 g : Nat} {v : Value} {l : List Pl} {top : Int} (h : VW N0 w g v l top) (hk : Kept w w' (VS g v)) : Chg TV w w' := Chg.of_kept hk h.typed
theorem PRow.chg1 {w w' : World} {N0 r n c : Nat} {l : List Pl} (h : PRow w N0 (.slice (some ⟨r, 0, none⟩) n c) l) (hk : Kept w w' (fun k => k = r)) : Chg TV w w' := Chg.of_kept hk (fun k hk o ho => by
  obtain ⟨c, hb⟩ := Kd.N_typed h r rfl
  rw [hk, hb] at ho
  exact ⟨_, _, _, (Option.some.inj ho).symm, by decide⟩)
theorem sl_set (W : World) (p : Addr) (v : Value) : Value.slice (some ⟨W.heap.size, 0, none⟩) 1 1 = .slice (some ⟨(W.setCell p v).heap.size, 0, none⟩) 1 1 := by rw [World.size_setCell]
/-- What is told. -/
abbrev Tl := S65
abbrev TRow (w : World) (N0 : Nat) (v : Value) (l : List Tl) : Prop := TN k65 65 w N0 v l
theorem FK9_told {w : World} {vf : Value} {k n : Int} {fs : List ByteArray} {base : Nat} (h : Kd.R Kd.string 9 w base (fun _ => True) vf fs) : Kd.FK k65 w (T9 w) (⟨k, n, fs⟩ : Tl) [.int .i64 k, .int .i64 n, vf] := by
  have ho := Kd.own_of_R h
  exact Kd.FK_of_M (k65_mkM w base (T9 w) (⟨k, n, fs⟩ : Tl) (Kd.R_of_own ho (fun k hk => Kd.R_typed h k hk)))
theorem FK9_told0 {w : World} {k n : Int} : Kd.FK k65 w (T9 w) (⟨k, n, []⟩ : Tl) [.int .i64 k, .int .i64 n, .slice none 0 0] := FK9_told (base := 0) (Kd.R_nil _ _ _ _ _)
theorem TRow.chg {w w' : World} {N0 : Nat} {v : Value} {l : List Tl} (h : TRow w N0 v l) (hc : Chg TV w w') : TRow w' N0 v l := TN.chg h hc (by decide) (by decide)
end Go.Proofs.YtmpngedfnheilaaDoor.PP
