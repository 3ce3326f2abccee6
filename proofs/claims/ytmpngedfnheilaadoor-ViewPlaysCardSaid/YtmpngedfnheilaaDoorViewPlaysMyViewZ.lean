/- MyRE, MyRF, MyViewZ (mergeall.py). -/
import Derived.Test.YtmpngedfnheilaaDoorViewPlaysMyRD
import Derived.Test.YtmpngedfnheilaaDoorViewPlaysMyViewY
import Derived.Test.YtmpngedfnheilaaDoorViewPlaysKindsPP
namespace Go.Proofs.YtmpngedfnheilaaDoor.PP
open Go.RowKit Go.Proofs.YtmpngedfnheilaaDoorW.PrintWords Go.Proofs.YtmpngedfnheilaaDoorW.PrintLast Go.Proofs.YtmpngedfnheilaaDoorW.PrintMore
open Go.Proofs.YtmpngedfnheilaaDoor.My
set_option linter.unusedVariables false
set_option linter.unusedSimpArgs false
section
variable {α : Type} {d : Kd α} {e : TypeId} {N0 N1 : Nat} {w w' W : World} {v v1 : Value} {l : List α}
theorem TN.more (he : e ≠ 9) {rows news : List (List Value)} {ps : List α} {w1 : World} (h9 : ∀ k, T9 W k → w1.heap[k]? = W.heap[k]?) (hlr : rows.length = l.length) (hf : ∀ (j : Nat) (x : α) (c : List Value), l[j]? = some x → rows[j]? = some c → Kd.FK d W (T9 W) x c)
    (hnl : news.length = ps.length) (hp : ∀ (j : Nat) (x : α) (c : List Value), ps[j]? = some x → news[j]? = some c → Kd.FK d W (T9 W) x c) (hr : (Kd.raw d.sz).R e w1 N0 (fun _ => True) v1 (rows ++ news)) : TN d e w1 N0 v1 (l ++ ps) := by
  refine TN.mk he (rows := rows ++ news) (by simp [hlr, hnl]) hr (fun j y c hy hc => ?_)
  by_cases hj : j < l.length
  · rw [List.getElem?_append_left hj] at hy
    rw [List.getElem?_append_left (by omega)] at hc
    exact FK9_stepd (hf j y c hy hc) h9
  · rw [List.getElem?_append_right (by omega)] at hy hc
    rw [hlr] at hc
    exact FK9_stepd (hp _ y c hy hc) h9
end
section
variable {P : Program} {ops : Array Oper} {rest : List Oper} {o : Oper} {a : Act} {Q : Exit → Act → World → Prop} {Kc : Act → World → Prop} {α : Type} {e : TypeId}
theorem TN_rows_step (d : Kd α) (he : e ≠ 9) {w0 W : World} {N0 : Nat} (hw : Region.wanted o (yielded ops a.tmps) = true) (s x : Operand) (t : TypeId) (z : Value) (bytes : Nat)
    (ho : o.op = .call { callee := .builtin .append, args := #[s, x], argTypes := #[t, t] })
    (ht : P.underlying t = some (.slice e)) (hinfo : (P.info? e).map (fun i => (i.zero, i.size, i.bytes)) = some (some z, d.sz, bytes)) (hz : z.cells.size = d.sz) (hs0 : 0 < d.sz) (hb0 : 0 < bytes)
    (v : Value) (xs ys : List α) (news : List (List Value)) (A : Option Addr) (m c : Nat) (hs : a.eval s = v) (hx : a.eval x = .slice A m c)
    (HO : TN d e W N0 v xs) (hR : (Kd.raw d.sz).C W A m news) (hnl : news.length = ys.length) (hp : ∀ (j : Nat) (x : α) (c : List Value), ys[j]? = some x → news[j]? = some c → Kd.FK d W (T9 W) x c)
    (HB : Below N0 w0 W) (hbase : N0 ≤ W.heap.size) (hl : (xs.length + m) * bytes ≤ 140737488355328)
    (h : ∀ v1 w1, TN d e w1 N0 v1 (xs ++ ys) → Below N0 w0 w1 → W.grownBy w1 v.ownBlock → (v1.ownBlock = v.ownBlock ∨ ∃ b, v1.ownBlock = some b ∧ W.heap.size ≤ b) → Kc (a.put o.dst v1) w1) :
    if Region.wanted o (yielded ops a.tmps) = true then Oper.wp P o a W Kc Q else Kc (a.put o.dst undef) W := by
  have hn := fun k (hk : T9 W k) => HO.ne9 he hk
  obtain ⟨rows, hlr, hR0, hf⟩ := HO.rows he
  refine Kd.R_append_rows_step (Kd.raw d.sz) N0 hw s x t e z bytes ho ht hinfo hz hs0 hb0 v rows news A m c (fun _ => True) (fun _ => False) hs hx (Kd.raw_any hR0) hR (fun _ _ hk => hk) (fun _ hk => hk.elim) (fun _ _ => trivial) HB hbase (by rw [hlr]; exact hl) ?_
  intro v1 w1 hr hb hg hat
  exact h v1 w1 (TN.more he (fun k hk => hg.block k hk.lt (hn k hk)) hlr hf hnl hp hr) hb hg hat
end
/-- What a row's cells are: read, with what its elements lead to. -/
structure TRd {α : Type} (d : Kd α) (w : World) (A : Option Addr) (l : List α) : Prop where
  rd : ∃ rows : List (List Value), rows.length = l.length ∧ (Kd.raw d.sz).C w A rows.length rows ∧ ∀ (j : Nat) (x : α) (c : List Value), l[j]? = some x → rows[j]? = some c → Kd.FK d w (T9 w) x c
theorem TN.trd {α : Type} {d : Kd α} {e : TypeId} {N0 : Nat} {w : World} {A : Option Addr} {n c : Nat} {l : List α} (he : e ≠ 9) (h : TN d e w N0 (.slice A n c) l) : TRd d w A l := by
  obtain ⟨rows, hl, hR, hf⟩ := h.rows he
  exact ⟨rows, hl, (Kd.R_reads' hR).2.2, hf⟩
theorem TRd.take {α : Type} {d : Kd α} {w : World} {A : Option Addr} {l : List α} (h : TRd d w A l) (m : Nat) (hm : m ≤ l.length) : TRd d w A (l.take m) := by
  obtain ⟨rows, hl, hR, hf⟩ := h.rd
  refine ⟨rows.take m, by simp [hl], Kd.C_take hR (by omega), fun j x c hx hc => ?_⟩
  rw [List.getElem?_take] at hx hc
  split at hx
  · rename_i hj; rw [if_pos hj] at hc; exact hf j x c hx hc
  · cases hx
theorem TRd.drop {α : Type} {d : Kd α} {w : World} {A : Option Addr} {l : List α} (h : TRd d w A l) (m c : Nat) (hm : m ≤ l.length) (hc : l.length ≤ c) : TRd d w (if c = m then A else A.map (·.add (m * d.sz))) (l.drop m) := by
  obtain ⟨rows, hl, hR, hf⟩ := h.rd
  refine ⟨rows.drop m, by simp [hl], Kd.C_drop (k := Kd.raw d.sz) hR (by omega) (by omega), fun j x c hx hc => ?_⟩
  rw [List.getElem?_drop] at hx hc
  exact hf _ x c hx hc
theorem TRd.get {α : Type} {d : Kd α} {w : World} {A : Option Addr} {l : List α} (h : TRd d w A l) : ∃ rows : List (List Value), rows.length = l.length ∧ (Kd.raw d.sz).C w A l.length rows ∧ ∀ (j : Nat) (x : α) (c : List Value), l[j]? = some x → rows[j]? = some c → Kd.FK d w (T9 w) x c := by
  obtain ⟨rows, hl, hR, hf⟩ := h.rd
  exact ⟨rows, hl, hl ▸ hR, hf⟩
/-- Those that are gone, from the end. -/
def expR (ls : List Ml) : Nat → List Rp → List Tl → List Rp × List Tl
  | 0, l, out => (l, out)
  | i + 1, l, out => if inU ls (rd_T84 l i).f0 = true then expR ls i l out else expR ls i (l.eraseIdx i) (out ++ [⟨1, (i : Int) + 1, []⟩])
/-- Those whose flags differ, from place i on; n: how many are left. -/
def flgR (FL : List ByteArray → List ByteArray) (ls : List Ml) : Nat → Nat → List Rp → List Tl → List Rp × List Tl
  | 0, _, l, out => (l, out)
  | n + 1, i, l, out =>
    if inU ls (rd_T84 l i).f0 = true ∧ (rd_T84 l i).f1 ≠ flagsU FL ls (rd_T84 l i).f0 then
      flgR FL ls n (i + 1) (l.set i ⟨(rd_T84 l i).f0, flagsU FL ls (rd_T84 l i).f0⟩) (out ++ [⟨3, (i : Int) + 1, flagsU FL ls (rd_T84 l i).f0⟩])
    else flgR FL ls n (i + 1) l out
/-- All of it: the places, the top, what is told. -/
def syncR (FL : List ByteArray → List ByteArray) (q : Bool) (ls : List Ml) (l : List Rp) (top : Int) : (List Rp × Int) × List Tl :=
  let a := if q = true then (l, []) else expR ls l.length l []
  let b := growR FL ls a.1 top
  let out := if a.1.length < b.1.length then a.2 ++ [⟨2, (b.1.length : Int), []⟩] else a.2
  let c := flgR FL ls b.1.length 0 b.1 out
  ((c.1, b.2), c.2)
section
variable {P : Program} {ops : Array Oper} {rest : List Oper} {o : Oper} {a : Act} {Q : Exit → Act → World → Prop} {Kc : Act → World → Prop} {α : Type} {e : TypeId}
theorem TN_row_step (d : Kd α) (he : e ≠ 9) {w0 W : World} {N0 : Nat} (hw : Region.wanted o (yielded ops a.tmps) = true) (s x : Operand) (t : TypeId) (z : Value) (bytes : Nat)
    (ho : o.op = .call { callee := .builtin .append, args := #[s, x], argTypes := #[t, t] })
    (ht : P.underlying t = some (.slice e)) (hinfo : (P.info? e).map (fun i => (i.zero, i.size, i.bytes)) = some (some z, d.sz, bytes)) (hz : z.cells.size = d.sz) (hs0 : 0 < d.sz) (hb0 : 0 < bytes)
    (v : Value) (xs ys : List α) (A : Option Addr) (m c : Nat) (hs : a.eval s = v) (hx : a.eval x = .slice A m c) (hm : ys.length = m)
    (HO : TN d e W N0 v xs) (hR : TRd d W A ys)
    (HB : Below N0 w0 W) (hbase : N0 ≤ W.heap.size) (hl : (xs.length + m) * bytes ≤ 140737488355328)
    (h : ∀ v1 w1, TN d e w1 N0 v1 (xs ++ ys) → Below N0 w0 w1 → W.grownBy w1 v.ownBlock → (v1.ownBlock = v.ownBlock ∨ ∃ b, v1.ownBlock = some b ∧ W.heap.size ≤ b) → Kc (a.put o.dst v1) w1) :
    if Region.wanted o (yielded ops a.tmps) = true then Oper.wp P o a W Kc Q else Kc (a.put o.dst undef) W := by
  obtain ⟨rows, hl1, hC, hf⟩ := hR.get
  exact TN_rows_step d he hw s x t z bytes ho ht hinfo hz hs0 hb0 v xs ys rows A m c hs hx HO (hm ▸ hC) hl1 hf HB hbase hl h
end
/-- A row that is made, empty. -/
theorem TN.new0 {α : Type} (d : Kd α) (e : TypeId) (he : e ≠ 9) (W : World) : TN d e (W.alloc (.cells #[] e)) W.heap.size (.slice (some ⟨W.heap.size, 0, none⟩) 0 0) [] := by
  refine TN.mk he (rows := []) rfl ⟨fun _ _ => trivial, [], ?_, Reps.none _ _⟩ (fun j x c hx _ => by simp at hx)
  have h2 := World.ownsRow_lit (base := W.heap.size) (e := e) (size := d.sz) W #[] 0 (Nat.le_refl _) (by simp [maxLen]) (by simp)
  simpa [show (Kd.raw d.sz).sz = d.sz from rfl] using h2
/-- A program's place as the document's. -/
def toR (p : Pl) : Rp := ⟨p.f0, p.f1⟩
end Go.Proofs.YtmpngedfnheilaaDoor.PP

namespace Go.Proofs.YtmpngedfnheilaaDoor.PP
open Go.RowKit Go.Proofs.YtmpngedfnheilaaDoorW.PrintWords Go.Proofs.YtmpngedfnheilaaDoorW.PrintLast Go.Proofs.YtmpngedfnheilaaDoorW.PrintMore
open Go.Proofs.YtmpngedfnheilaaDoor.My
set_option linter.unusedVariables false
set_option linter.unusedSimpArgs false
theorem rd43_drop (ls : List Ml) (i : Nat) (h : i < ls.length) : ls.drop i = rd_T43 ls i :: ls.drop (i + 1) := by
  rw [List.drop_eq_getElem_cons h]
  unfold rd_T43
  simp [List.getD_eq_getElem?_getD, List.getElem?_eq_getElem h]
theorem find_l0 (FL : List ByteArray → List ByteArray) (ls : List Ml) (u : Int) (hl : ls.length ≤ 1000000000) : ∀ (n i : Nat), i + n = ls.length → ∃ r : Int, Ev (fun k => haversackref18_find.l0 k ls u i) r ∧ ((inU (ls.drop i) u = false ∧ r = -1) ∨ (inU (ls.drop i) u = true ∧ 0 ≤ r ∧ r < (ls.length : Int) ∧ flagsU FL (ls.drop i) u = FL (rd_T43 ls r).f1))
  | 0, i, h => by
    rw [List.drop_of_length_le (by omega)]
    exact ⟨-1, Ev.now (fun k => by rw [haversackref18_find.l0, if_neg (by omega)]), .inl ⟨rfl, rfl⟩⟩
  | n + 1, i, h => by
    rw [rd43_drop ls i (by omega)]
    by_cases he : (rd_T43 ls i).f0 = u
    · refine ⟨(i : Int), Ev.now (fun k => by rw [haversackref18_find.l0, if_pos (by omega), if_pos (by omega), if_pos he]), .inr ⟨?_, by omega, by omega, ?_⟩⟩
      · simp [inU, he]
      · rw [flagsU, if_pos he.symm]
    · obtain ⟨r, h1, h2⟩ := find_l0 FL ls u hl n (i + 1) (by omega)
      refine ⟨r, Ev.go (fun k => by rw [haversackref18_find.l0, if_pos (by omega), if_pos (by omega), if_neg he, w64s (by omega)]) h1, ?_⟩
      have e1 : inU (rd_T43 ls i :: ls.drop (i + 1)) u = inU (ls.drop (i + 1)) u := by
        simp only [inU, List.any_cons, beq_eq_false_iff_ne.mpr he, Bool.false_or]
      have e2 : flagsU FL (rd_T43 ls i :: ls.drop (i + 1)) u = flagsU FL (ls.drop (i + 1)) u := by
        rw [flagsU, if_neg (Ne.symm he)]
      rw [e1, e2]
      exact h2
theorem find_is (FL : List ByteArray → List ByteArray) (ls : List Ml) (u : Int) (hl : ls.length ≤ 1000000000) : ∃ (k : Nat) (r : Int), haversackref18_find.f k ls u = some r ∧ ((inU ls u = false ∧ r = -1) ∨ (inU ls u = true ∧ 0 ≤ r ∧ r < (ls.length : Int) ∧ flagsU FL ls u = FL (rd_T43 ls r).f1)) := by
  obtain ⟨r, h1, h2⟩ := find_l0 FL ls u hl ls.length 0 (by omega)
  rw [List.drop_zero] at h2
  obtain ⟨k, hk⟩ := Ev.at h1
  exact ⟨k, r, hk, h2⟩
/-- What Sync of the document keeps from step to step. -/
structure RS (N0 : Nat) (w w1 wr : World) (g : Nat) (v0 v1 : Value) (l1 : List Rp) (top1 : Int) (vo : Value) (out : List Tl) : Prop where
  vw : RW N0 wr g v1 l1 top1
  told : TRow wr w1.heap.size vo out
  bel : Below N0 w wr
  sz : w1.heap.size ≤ wr.heap.size
  kept : Kept w1 wr (VS g v0)
  own : ∀ k, v1.ownBlock = some k → v0.ownBlock = some k ∨ w1.heap.size ≤ k
section
variable {N0 : Nat} {w w1 wr w2 : World} {g : Nat} {v0 v1 v2 : Value} {l1 l2 : List Rp} {top1 top2 : Int} {vo vo2 : Value} {out out2 : List Tl}
theorem RS.ge (h : RS N0 w w1 wr g v0 v1 l1 top1 vo out) : N0 ≤ wr.heap.size := by
  have := h.vw.lt
  have := h.vw.ge
  omega
theorem RS.below (h : RS N0 w w1 wr g v0 v1 l1 top1 vo out) (hb : Below wr.heap.size wr w2) : RS N0 w w1 w2 g v0 v1 l1 top1 vo out :=
  ⟨h.vw.below hb, h.told.below hb, h.bel.trans (hb.mono h.ge), Nat.le_trans h.sz hb.size, h.kept.below hb, h.own⟩
theorem RS.vs (h : RS N0 w w1 wr g v0 v1 l1 top1 vo out) (k : Nat) (hk : VS g v1 k) : VS g v0 k ∨ w1.heap.size ≤ k := by
  rcases hk with hk | hk
  · exact .inl (.inl hk)
  · exact (h.own k hk).imp (fun e => .inr e) id
/-- More is told. -/
theorem RS.tell (h : RS N0 w w1 wr g v0 v1 l1 top1 vo out) (hn : N0 ≤ w1.heap.size) (hr : TRow w2 w1.heap.size vo2 out2) (hg : wr.grownBy w2 vo.ownBlock) : RS N0 w w1 w2 g v0 v1 l1 top1 vo2 out2 := by
  have hbase : ∀ k, vo.ownBlock = some k → w1.heap.size ≤ k := fun k hk => Kd.N_base h.told k hk
  have hgo : some g ≠ vo.ownBlock := Kd.N_ne h.told h.vw.blk (by decide)
  have hown : ∀ k, v1.ownBlock = some k → some k ≠ vo.ownBlock := fun k hk => by
    obtain ⟨c, hc⟩ := Kd.N_typed h.vw.row k hk
    exact Kd.N_ne h.told hc (by decide)
  have h9 : ∀ k, T9 wr k → some k ≠ vo.ownBlock := fun k hk => h.told.ne9 (by decide) hk
  refine ⟨h.vw.keep (hg.block g h.vw.lt hgo) (fun k hk => hg.block k (Kd.N_lt h.vw.row k hk) (hown k hk)) (fun k hk => hg.block k hk.lt (h9 k hk)), hr, h.bel.grown hg h.ge (fun k hk => Nat.le_trans hn (hbase k hk)), Nat.le_trans h.sz hg.size, Kept.of_grown hg h.kept (fun k hk => .inr (hbase k hk)), h.own⟩
/-- The View is turned (its own blocks alone). -/
theorem RS.turn (h : RS N0 w w1 wr g v0 v1 l1 top1 vo out) (hv : RW N0 w2 g v2 l2 top2) (hb : Below N0 wr w2) (hk : Kept wr w2 (VS g v1)) (ho : ∀ k, v2.ownBlock = some k → v1.ownBlock = some k ∨ wr.heap.size ≤ k) : RS N0 w w1 w2 g v0 v2 l2 top2 vo out :=
  ⟨hv, TN.chg h.told (h.vw.chg hk) (by decide) (by decide), h.bel.trans hb, Nat.le_trans h.sz hb.size, h.kept.then_ hk h.vs, fun k hk => (ho k hk).elim (h.own k) (fun hle => .inr (Nat.le_trans h.sz hle))⟩
/-- A new row is stored. -/
theorem RS.setRow (h : RS N0 w w1 wr g v0 v1 l1 top1 vo out) (hr : RRow wr N0 v2 l2) (ho : ∀ k, v2.ownBlock = some k → w1.heap.size ≤ k) : RS N0 w w1 (wr.setCell ⟨g, 0, none⟩ v2) g v0 v2 l2 top1 vo out :=
  ⟨RW.set0 h.vw.blk h.vw.ge hr, TN.chg h.told (Chg.setCell (T := TR) (p := ⟨g, 0, none⟩) h.vw.blk (by decide) v2) (by decide) (by decide), h.bel.setCell (p := ⟨g, 0, none⟩) h.vw.ge v2, (by rw [World.size_setCell]; exact h.sz), h.kept.setCell (p := ⟨g, 0, none⟩) (.inl (.inl rfl)) v2, fun k hk => .inr (ho k hk)⟩
theorem RS.mails {P : Nat → Prop} {A : Option Addr} {n : Nat} {ls : List Ml} (h : RS N0 w w1 wr g v0 v1 l1 top1 vo out) (hf : Kd.F k43 w1 P A n ls) (hP : ∀ k, P k → ¬ VS g v0 k) : Kd.F k43 wr P A n ls := Kd.F_kept hf h.kept hP
end
end Go.Proofs.YtmpngedfnheilaaDoor.PP

namespace Go.Proofs.YtmpngedfnheilaaDoor.PP
open Go.RowKit Go.Proofs.YtmpngedfnheilaaDoorW.PrintWords Go.Proofs.YtmpngedfnheilaaDoorW.PrintLast Go.Proofs.YtmpngedfnheilaaDoorW.PrintMore
open Go.Proofs.YtmpngedfnheilaaDoor.My
set_option linter.unusedVariables false
set_option linter.unusedSimpArgs false
theorem R_chg {α : Type} {d : Kd α} {e base : Nat} {ok : Nat → Prop} {w w' : World} {v : Value} {xs : List α} {T : List TypeId} (h : d.R e w base ok v xs) (hc : Chg T w w') (hT : ∀ q, q ∈ e :: d.E → q ∉ T) : d.R e w' base ok v xs :=
  Kd.R_mono (Kd.R_step (Kd.R_bound h) (fun k hk hlt => by
    obtain ⟨_, _, _, q, hq, c, hb⟩ := hk
    exact (hc.cells hb (hT q hq)).trans hb.symm)) (fun k hk => hk.1)
theorem IRow.chg {w w' : World} {base : Nat} {v : Value} {l : List Int} (h : IRow w base v l) (hc : Chg TV w w') : IRow w' base v l := R_chg h hc (by decide)
theorem small_mail {m : Ml} (h : Q43 m) : Small m.f1 := h.2.1
theorem small_act {a : Al} (h : Q33 a) : Small a.f3 ∧ a.f1.length ≤ 9223372036854775807 ∧ ∀ m ∈ a.f1, Q43 m := ⟨h.2.2.2, h.2.1.1, h.2.1.2⟩
theorem uidAt_last (l : List Pl) : uidAt l (l.length : Int) = (us l).getLast?.getD 0 := by
  unfold uidAt
  by_cases h : l.length = 0
  · have : l = [] := List.eq_nil_of_length_eq_zero h
    subst this; rfl
  · rw [if_neg (by omega)]
    have := us_rd l (l.length - 1) (by omega)
    rw [List.getLast?_eq_getElem?, us_len, this, Option.getD_some, show ((l.length : Int) - 1) = ((l.length - 1 : Nat) : Int) by omega]
theorem ris_last {l : List Pl} {top : Int} (h : Ris l top) (h0 : 0 ≤ top) : uidAt l (l.length : Int) ≤ top := by
  unfold uidAt
  split
  · exact h0
  · have := h.top (l.length - 1) (by omega)
    rw [show ((l.length : Int) - 1) = ((l.length - 1 : Nat) : Int) by omega]
    exact this
theorem DoF.max {a : Al} {l : List Pl} {top : Int} {l' : List Pl} {top' : Int} {out : List Tl} (h : DoF a l top l' top' out) (h0 : 0 ≤ top) : mx top (uidAt l' (l'.length : Int)) = top' := by
  have hl := ris_last h.ris (by have := h.le; omega)
  have hle := h.le
  have key : top = top' ∨ uidAt l' (l'.length : Int) = top' := by
    by_cases hn : newU a top = []
    · left
      rw [h.last, hn]; rfl
    · right
      rw [uidAt_last, h.lastU hn, h.last]
      cases hg : (newU a top).getLast? with
      | none => exact absurd (List.getLast?_eq_none_iff.1 hg) hn
      | some x => rfl
  unfold mx
  split <;> omega
theorem ris0 : Ris [] 0 := ⟨fun i j _ h => by simp at h, fun i h => by simp at h, fun i h => by simp at h, by simp⟩
/-- The view at first. -/
theorem first_ris (l : List Ml) (h : l.length ≤ 60) : Ris (growL FL (risL l 0) [] 0).1 (growL FL (risL l 0) [] 0).2 :=
  Ris.grow FL (risL l 0) [] 0 ris0 (fun m hm => by have := risL_above l 0 m hm; omega) (by have := risL_len l 0; simp; omega)
theorem first_len (l : List Ml) (h : l.length ≤ 60) : (growL FL (risL l 0) [] 0).1.length ≤ 60 := by
  have := risL_len l 0
  have h3 := growL_len FL (risL l 0) [] 0
  simp at h3
  omega
/-- All flags of the laws' mails are kept at last. -/
theorem kf_all (l0 : List Ml) (l1 : List Al) (l2 : List Ml) (q0 : ∀ z ∈ l0, Q43 z) (q1 : ∀ z ∈ l1, Q33 z) (q2 : ∀ z ∈ l2, Q43 z) : ∃ kf, (∀ m ∈ l0, search_Flags.f kf m.f1 = some (FL m.f1)) ∧ (∀ a ∈ l1, search_Flags.f kf a.f3 = some (FL a.f3) ∧ ∀ m ∈ a.f1, search_Flags.f kf m.f1 = some (FL m.f1)) ∧ (∀ m ∈ l2, search_Flags.f kf m.f1 = some (FL m.f1)) := by
  obtain ⟨kf, h⟩ := FL_all (l0.map (·.f1) ++ (l1.flatMap (fun a => a.f3 :: a.f1.map (·.f1)) ++ l2.map (·.f1))) (fun l hl => by
    rcases List.mem_append.1 hl with hl | hl
    · obtain ⟨m, hm, rfl⟩ := List.mem_map.1 hl
      exact small_mail (q0 m hm)
    · rcases List.mem_append.1 hl with hl | hl
      · obtain ⟨a, ha, hl⟩ := List.mem_flatMap.1 hl
        rcases List.mem_cons.1 hl with rfl | hl
        · exact (small_act (q1 a ha)).1
        · obtain ⟨m, hm, rfl⟩ := List.mem_map.1 hl
          exact small_mail ((small_act (q1 a ha)).2.2 m hm)
      · obtain ⟨m, hm, rfl⟩ := List.mem_map.1 hl
        exact small_mail (q2 m hm))
  refine ⟨kf, fun m hm => h _ (List.mem_append_left _ (List.mem_map_of_mem hm)), fun a ha => ⟨h _ (List.mem_append_right _ (List.mem_append_left _ (List.mem_flatMap.2 ⟨a, ha, List.mem_cons_self ..⟩))), fun m hm => h _ (List.mem_append_right _ (List.mem_append_left _ (List.mem_flatMap.2 ⟨a, ha, List.mem_cons_of_mem _ (List.mem_map_of_mem hm)⟩)))⟩, fun m hm => h _ (List.mem_append_right _ (List.mem_append_right _ (List.mem_map_of_mem hm)))⟩
theorem light_at (l : List Ml) (h : l.length ≤ maxLen) (q : ∀ z ∈ l, Q43 z) : ∃ k b, haversacklaw18_light.f k l = some b := by
  obtain ⟨b, hb⟩ := light_tot l h (fun m hm => (small_mail (q m hm)).1)
  obtain ⟨k, hk⟩ := hb.at
  exact ⟨k, b, hk⟩
theorem few_at (l : List Al) (q : ∀ z ∈ l, Q33 z) : ∃ k b, haversacklaw18_few.f k l = some b := by
  obtain ⟨b, hb⟩ := few_tot l (fun a ha => ⟨⟨(small_act (q a ha)).2.1, fun m hm => (small_mail ((small_act (q a ha)).2.2 m hm)).1⟩, (small_act (q a ha)).1.1⟩)
  obtain ⟨k, hk⟩ := hb.at
  exact ⟨k, b, hk⟩
theorem rd_mem33 (l : List Al) (i : Nat) (h : i < l.length) : rd_T33 l i ∈ l := by
  unfold rd_T33
  simp [List.getD_eq_getElem?_getD, List.getElem?_eq_getElem h]
end Go.Proofs.YtmpngedfnheilaaDoor.PP
