/- PPx17, PPx18, MyRA (mergeall.py). -/
import Derived.Test.YtmpngedfnheilaaDoorViewPlaysPPx0
import Derived.Test.YtmpngedfnheilaaDoorViewPlaysMyViewQ
import Derived.Test.YtmpngedfnheilaaDoorViewPlaysPPx16
namespace Go.Proofs.YtmpngedfnheilaaDoor.PP
open Go.RowKit Go.Proofs.YtmpngedfnheilaaDoorW.PrintWords Go.Proofs.YtmpngedfnheilaaDoorW.PrintLast Go.Proofs.YtmpngedfnheilaaDoorW.PrintMore
attribute [local go_sem] max2_int min2_int max_two min_two max_three min_three max_four min_four   -- for this text's walks alone
open Go.Proofs.YtmpngedfnheilaaDoor.My
set_option linter.unusedVariables false
set_option linter.unusedSimpArgs false
/-- A state of type 80 at block g of W; what its slices lead to came in by w0. -/
def IsS80 (w0 W : World) (g : Nat) (f0 : List (S84)) (f1 : Int) : Prop := ∃ A0 c0, W.heap[g]? = some (.cells #[.slice A0 f0.length c0, .int .i64 f1] 80 (0, 0)) ∧ w0.heap.size ≤ g ∧ Kd.C k84 w0 A0 f0.length f0
theorem IsS80.grown {w0 W : World} {g : Nat} {f0 : List (S84)} {f1 : Int} {W1 : World} {row : Option Nat} (h : IsS80 w0 W g f0 f1) (hw : W.grownBy W1 row) (hne : some g ≠ row) : IsS80 w0 W1 g f0 f1 := by
 obtain ⟨A0, c0, hb, hg, hr0⟩ := h
 exact ⟨A0, c0, blk_grown hb hw hne, hg, hr0⟩
theorem IsS80.fresh {w0 W : World} {g : Nat} {f0 : List (S84)} {f1 : Int} (h : IsS80 w0 W g f0 f1) : ∀ k, W.heap.size ≤ k → k ≠ g := by
 obtain ⟨A0, c0, hb, hg, hr0⟩ := h
 exact Kd.freshB hb
theorem IsS80.kept {w0 W : World} {g : Nat} {f0 : List (S84)} {f1 : Int} {W1 : World} {S : Nat → Prop} (h : IsS80 w0 W g f0 f1) (hk : Kept W W1 S) (hne : ¬ S g) : IsS80 w0 W1 g f0 f1 := by
 obtain ⟨A0, c0, hb, hg, hr0⟩ := h
 exact ⟨A0, c0, blk_kept hb hk hne, hg, hr0⟩
theorem IsS80.below {w0 W : World} {g : Nat} {f0 : List (S84)} {f1 : Int} {W1 : World} (h : IsS80 w0 W g f0 f1) (hw : Below W.heap.size W W1) : IsS80 w0 W1 g f0 f1 := h.grown (grown_of_below hw none) (by simp)
theorem IsS80.alloc {w0 W : World} {g : Nat} {f0 : List (S84)} {f1 : Int} (h : IsS80 w0 W g f0 f1) (o : Obj) : IsS80 w0 (W.alloc o) g f0 f1 := h.below (below_alloc (Below.refl _ _) o)
theorem IsS80.drewN {w0 W : World} {g : Nat} {f0 : List (S84)} {f1 : Int} (h : IsS80 w0 W g f0 f1) (m : Nat) : IsS80 w0 (W.drewN m) g f0 f1 := h
theorem IsS80.drew {w0 W : World} {g : Nat} {f0 : List (S84)} {f1 : Int} (h : IsS80 w0 W g f0 f1) : IsS80 w0 W.drew g f0 f1 := h
theorem IsS80.at_ {w0 W : World} {g : Nat} {f0 : List (S84)} {f1 : Int} {w' : World} {m : Nat} (hq : W.drewN m = w') (h : IsS80 w0 W g f0 f1) : IsS80 w0 w' g f0 f1 := by subst hq; exact IsS80.drewN h m
theorem IsS80.apart {w0 W : World} {g : Nat} {f0 : List (S84)} {f1 : Int} {α : Type} {d : Kd α} {e : Nat} {base : Nat} {ok : Nat → Prop} {v : Value} {xs : List α} (h : IsS80 w0 W g f0 f1) (ho : d.R e W base ok v xs) (ht : ∀ q, q ∈ e :: d.E → q ≠ 80) : d.R e W base (fun k => ok k ∧ k ≠ g) v xs := by
 obtain ⟨A0, c0, hb, hg, hr0⟩ := h
 exact Kd.R_types ho hb ht
theorem IsS80.own_ne {w0 W : World} {g : Nat} {f0 : List (S84)} {f1 : Int} {α : Type} {d : Kd α} {e : Nat} {base : Nat} {ok : Nat → Prop} {v : Value} {xs : List α} (h : IsS80 w0 W g f0 f1) (ho : d.R e W base ok v xs) (ht : e ≠ 80) : some g ≠ v.ownBlock := by
 obtain ⟨A0, c0, hb, hg, hr0⟩ := h
 exact Kd.R_ne ho hb ht
theorem IsS80.lt {w0 W : World} {g : Nat} {f0 : List (S84)} {f1 : Int} (h : IsS80 w0 W g f0 f1) : g < W.heap.size := by
 obtain ⟨A0, c0, hb, hg, hr0⟩ := h
 exact blk_lt hb
theorem IsS80.ge {w0 W : World} {g : Nat} {f0 : List (S84)} {f1 : Int} (h : IsS80 w0 W g f0 f1) : w0.heap.size ≤ g := by
 obtain ⟨A0, c0, hb, hg, hr0⟩ := h
 exact hg
theorem IsS80.far {w0 W : World} {g : Nat} {f0 : List (S84)} {f1 : Int} {p : Addr} (h : IsS80 w0 W g f0 f1) (hne : g ≠ p.block) (u : Value) : IsS80 w0 (W.setCell p u) g f0 f1 := by
 obtain ⟨A0, c0, hb, hg, hr0⟩ := h
 exact ⟨A0, c0, blk_far hb hne u, hg, hr0⟩
theorem IsS80.new (w0 W : World) (A0 : Option Addr) (c0 : Nat) (f0 : List (S84)) (f1 : Int) (hB : Below w0.heap.size w0 W) (hr0 : Kd.C k84 w0 A0 f0.length f0) : IsS80 w0 (W.alloc (.cells #[.slice A0 f0.length c0, .int .i64 f1] 80)) W.heap.size f0 f1 := ⟨A0, c0, by simpa using heap_alloc_new W _, hB.size, hr0⟩
end Go.Proofs.YtmpngedfnheilaaDoor.PP

namespace Go.Proofs.YtmpngedfnheilaaDoor.PP
open Go.RowKit Go.Proofs.YtmpngedfnheilaaDoorW.PrintWords Go.Proofs.YtmpngedfnheilaaDoorW.PrintLast Go.Proofs.YtmpngedfnheilaaDoorW.PrintMore
attribute [local go_sem] max2_int min2_int max_two min_two max_three min_three max_four min_four   -- for this text's walks alone
open Go.Proofs.YtmpngedfnheilaaDoor.My
set_option linter.unusedVariables false
set_option linter.unusedSimpArgs false
def haversackref18_find.l0 : Nat → List (S43) → Int → Int → Option (Int)
 | 0, _, _, _ => none
 | k + 1, x0, x1, x5 => if x5 < (x0.length : Int) then (if 0 ≤ x5 then (if ((rd_T43 x0 x5).f0) = x1 then (some x5) else (haversackref18_find.l0 k x0 x1 (wrap64 (x5 + 1)))) else (none)) else (some (-1))
def haversackref18_find.f (k : Nat) (l0 : List (S43)) (a1 : Int) : Option (Int) := haversackref18_find.l0 k l0 a1 0
set_option maxHeartbeats 8000000 in
set_option maxRecDepth 100000 in
theorem haversackref18_find.calls (k : Nat) (A0 : Option Addr) (c0 : Nat) (l0 : List (S43)) (a1 : Int) (r : Int) (w : World) (hr0 : Kd.C k43 w A0 l0.length l0) (hc0 : l0.length ≤ c0) (h : haversackref18_find.f k l0 a1 = some r) :
  Calls Tryd.prog 46 #[.slice A0 l0.length c0, .int .i64 a1] w fun e w' => e = .returned (.int .i64 r) ∧ Drawn0 w w' := by
 have HR0 := Aside0.mk hr0
 have HC0 := Aside0.mk hc0
 clear hr0 hc0
 have H : (haversackref18_find.l0 k l0 a1 0) = some r := h
 clear h
 have H' := Aside0.mk H
 clear H
 go_enter Tryd.func46, Tryd.ntmps46
 go_wp2
 go_loopg [5] k (fun kq v5 w' => ∃ (x5_1 : Int), v5 = .int .i64 x5_1 ∧ Aside0 (haversackref18_find.l0 kq l0 a1 x5_1 = some r) ∧ Aside0 (kq ≤ k) ∧ Drawn0 w w')
 case atStart => exact ⟨(0), (by first | with_reducible rfl | (simp only [pps, Nat.reduceAdd, Int.toNat_natCast]; done) | rfl | (simp; done) | (simp [*]; done)), H', ⟨Nat.le_refl _⟩, by repeat (first | exact Drawn0.refl _ | apply Drawn0.step)⟩
 case round =>
  clear H'
  try clear p2
  obtain ⟨x5_1, rfl, HA, HK1, ⟨m1, rfl⟩⟩ := hrel
  cases gk with
  | zero => exact absurd HA.out (by simp [haversackref18_find.l0])
  | succ k1 =>
   have H := HA.out
   clear HA
   simp only [haversackref18_find.l0] at H
   by_cases c3 : x5_1 < (l0.length : Int)
   ·
    rw [if_pos c3] at H
    have c3b0 : decide (x5_1 < (l0.length : Int)) = true := decide_eq_true c3
    clear c3
    by_cases c4 : 0 ≤ x5_1
    ·
     rw [if_pos c4] at H
     have c4b0 : decide (0 ≤ x5_1) = true := decide_eq_true c4
     clear c4
     by_cases c5 : ((rd_T43 l0 x5_1).f0) = a1
     ·
      rw [if_pos c5] at H
      have c5b0 : (((rd_T43 l0 x5_1).f0) == a1) = true := beq_iff_eq.mpr c5
      have c5b1 : (((rd_T43 l0 x5_1).f0) != a1) = false := bne_eq_false_iff_eq.mpr c5
      clear c5
      obtain rfl := Option.some.inj H
      have p257 : 0 ≤ (x5_1 : Int) := of_decide_eq_true (by first | (with_reducible assumption) | assumption)
      have q257 : x5_1 < (l0.length : Int) := of_decide_eq_true (by first | (with_reducible assumption) | assumption)
      obtain ⟨ad257, A257_1, c257_1, e257, hx257_0, hx257_1, hx257_2, hx257_3, hx257_4, hx257_5, hx257_6, hx257_7, hx257_8, hx257_9, hx257_10, hx257_11, hl257_1, hi257_1⟩ := at_T43 HR0.out x5_1 p257 q257
      cases e257
      have HR257_1 := Aside0.mk hi257_1
      have HC257_1 := Aside0.mk hl257_1
      clear hi257_1 hl257_1
      replace p257 := eq_true p257
      replace q257 := eq_true q257
      go_wp2
      go_ret
      exact ⟨by first | with_reducible rfl | (simp only [pps, Nat.reduceAdd, Int.toNat_natCast]; done) | rfl | (simp; done) | (simp [*]; done), by repeat (first | exact Drawn0.refl _ | apply Drawn0.step)⟩
     ·
      rw [if_neg c5] at H
      have c5b0 : (((rd_T43 l0 x5_1).f0) == a1) = false := beq_eq_false_iff_ne.mpr c5
      have c5b1 : (((rd_T43 l0 x5_1).f0) != a1) = true := bne_iff_ne.mpr c5
      have H' := Aside0.mk H
      clear H
      have p257 : 0 ≤ (x5_1 : Int) := of_decide_eq_true (by first | (with_reducible assumption) | assumption)
      have q257 : x5_1 < (l0.length : Int) := of_decide_eq_true (by first | (with_reducible assumption) | assumption)
      obtain ⟨ad257, A257_1, c257_1, e257, hx257_0, hx257_1, hx257_2, hx257_3, hx257_4, hx257_5, hx257_6, hx257_7, hx257_8, hx257_9, hx257_10, hx257_11, hl257_1, hi257_1⟩ := at_T43 HR0.out x5_1 p257 q257
      cases e257
      have HR257_1 := Aside0.mk hi257_1
      have HC257_1 := Aside0.mk hl257_1
      clear hi257_1 hl257_1
      replace p257 := eq_true p257
      replace q257 := eq_true q257
      go_wp2
      go_roundg k1
      case measure => have := HK1.out; omega
      case rel => exact ⟨(wrap64 (x5_1 + 1)), (by first | with_reducible rfl | (simp only [pps, Nat.reduceAdd, Int.toNat_natCast]; done) | rfl | (simp; done) | (simp [*]; done)), H', ⟨by have := HK1.out; omega⟩, by repeat (first | exact Drawn0.refl _ | apply Drawn0.step)⟩
    ·
     rw [if_neg c4] at H
     exact absurd H (by simp)
   ·
    rw [if_neg c3] at H
    have c3b0 : decide (x5_1 < (l0.length : Int)) = false := decide_eq_false c3
    clear c3
    obtain rfl := Option.some.inj H
    go_wp2
    go_ret
    exact ⟨by first | with_reducible rfl | (simp only [pps, Nat.reduceAdd, Int.toNat_natCast]; done) | rfl | (simp; done) | (simp [*]; done), by repeat (first | exact Drawn0.refl _ | apply Drawn0.step)⟩
end Go.Proofs.YtmpngedfnheilaaDoor.PP

namespace Go.Proofs.YtmpngedfnheilaaDoor.PP
open Go.RowKit Go.Proofs.YtmpngedfnheilaaDoorW.PrintWords Go.Proofs.YtmpngedfnheilaaDoorW.PrintLast Go.Proofs.YtmpngedfnheilaaDoorW.PrintMore
open Go.Proofs.YtmpngedfnheilaaDoor.My
set_option linter.unusedVariables false
set_option linter.unusedSimpArgs false
abbrev Rp := S84
/-- Block g is a View: its places l, which lie in the row v, and its top. -/
structure RW (N0 : Nat) (w : World) (g : Nat) (v : Value) (l : List Rp) (top : Int) : Prop where
  blk : w.heap[g]? = some (.cells #[v, .int .i64 top] 80 (0, 0))
  ge : N0 ≤ g
  row : Kd.N k84 84 w N0 (fun k => T9 w k ∨ v.ownBlock = some k) v l
section
variable {N0 : Nat} {w w' : World} {g : Nat} {v : Value} {l : List Rp} {top : Int}
theorem RW.lt (h : RW N0 w g v l top) : g < w.heap.size := (Array.getElem?_eq_some_iff.1 h.blk).1
theorem RW.keep (h : RW N0 w g v l top) (hg : w'.heap[g]? = w.heap[g]?) (hr : ∀ k, v.ownBlock = some k → w'.heap[k]? = w.heap[k]?) (ht : ∀ k, T9 w k → w'.heap[k]? = w.heap[k]?) : RW N0 w' g v l top :=
  ⟨hg.trans h.blk, h.ge, Kd.N_mono (Kd.N_step h.row (fun k hk _ => hk.elim (ht k) (hr k))) (fun k hk => hk.imp (fun ⟨c, hc⟩ => ⟨c, (ht k ⟨c, hc⟩).trans hc⟩) id)⟩
theorem RW.below (h : RW N0 w g v l top) (hb : Below w.heap.size w w') : RW N0 w' g v l top :=
  h.keep (hb.block g h.lt) (fun k hk => hb.block k (Kd.N_lt h.row k hk)) (fun k hk => hb.block k hk.lt)
theorem RW.drewN (h : RW N0 w g v l top) (n : Nat) : RW N0 (w.drewN n) g v l top := h.below (pw_below_drewN (Below.refl _ _) n)
theorem RW.alloc (h : RW N0 w g v l top) (o : Obj) : RW N0 (w.alloc o) g v l top := h.below ((Below.refl _ w).alloc (Nat.le_refl _) o)
theorem RW.slice (h : RW N0 w g v l top) : ∃ A c, v = .slice A l.length c ∧ l.length ≤ c ∧ Kd.C k84 w A l.length l := by
  obtain ⟨A, c, rfl⟩ := Kd.N_slice h.row
  exact ⟨A, c, rfl, (Kd.N_reads' h.row).2.1, (Kd.N_reads' h.row).2.2⟩
theorem RW.cell0 (h : RW N0 w g v l top) : w.cell? ⟨g, 0, none⟩ = some v := (blk_cell h.blk 0).trans rfl
theorem RW.cell1 (h : RW N0 w g v l top) : w.cell? ⟨g, 1, none⟩ = some (.int .i64 top) := (blk_cell h.blk 1).trans rfl
end
/-- The row of a View's places. -/
def RRow (w : World) (N0 : Nat) (v : Value) (l : List Rp) : Prop := Kd.N k84 84 w N0 (fun k => T9 w k ∨ v.ownBlock = some k) v l
section
variable {N0 : Nat} {w w' W : World} {g : Nat} {v v1 : Value} {l : List Rp} {top : Int}
theorem RRow.ne9 (h : RRow w N0 v l) {k : Nat} (hk : T9 w k) : some k ≠ v.ownBlock := by
  obtain ⟨c, hc⟩ := hk
  exact Kd.N_ne h hc (by decide)
theorem RRow.keep (h : RRow w N0 v l) (hr : ∀ k, v.ownBlock = some k → w'.heap[k]? = w.heap[k]?) (ht : ∀ k, T9 w k → w'.heap[k]? = w.heap[k]?) : RRow w' N0 v l :=
  Kd.N_mono (Kd.N_step h (fun k hk _ => hk.elim (ht k) (hr k))) (fun k hk => hk.imp (fun ⟨c, hc⟩ => ⟨c, (ht k ⟨c, hc⟩).trans hc⟩) id)
/-- By elements: each leads to rows of texts alone. -/
theorem RRow.rows (h : RRow w N0 v l) : ∃ rows : List (List Value), rows.length = l.length ∧ (Kd.raw 2).R 84 w N0 (fun k => some k = v.ownBlock) v rows ∧ ∀ (j : Nat) (x : Rp) (c : List Value), l[j]? = some x → rows[j]? = some c → Kd.FK k84 w (T9 w) x c := by
  have hn := fun k (hk : T9 w k) => h.ne9 hk
  obtain ⟨_, rows, hl, hR, hf⟩ := h
  exact ⟨rows, hl, hR, fun j x c hx hc => Kd.FK_mono (hf j x c hx hc) (fun k hk => hk.1.elim id (fun e => absurd e.symm hk.2))⟩
theorem RRow.mk {rows : List (List Value)} (hl : rows.length = l.length) (hR : (Kd.raw 2).R 84 w N0 (fun _ => True) v rows) (hf : ∀ (j : Nat) (x : Rp) (c : List Value), l[j]? = some x → rows[j]? = some c → Kd.FK k84 w (T9 w) x c) : RRow w N0 v l := by
  refine ⟨fun k hk => .inr hk, rows, hl, Kd.raw_tight hR, fun j x c hx hc => Kd.FK_mono (hf j x c hx hc) (fun k hk => ⟨.inl hk, ?_⟩)⟩
  obtain ⟨c2, hc2⟩ := hk
  exact Kd.R_ne hR hc2 (by decide)
/-- What leads to rows of texts alone, in a later world. -/
theorem FK9r_step {x : Rp} {c : List Value} (h : Kd.FK k84 w (T9 w) x c) (ht : ∀ k, T9 w k → w'.heap[k]? = w.heap[k]?) : Kd.FK k84 w' (T9 w') x c :=
  Kd.FK_mono (Kd.FK_step h (fun k hk _ => ht k hk)) (fun k ⟨c, hc⟩ => ⟨c, (ht k ⟨c, hc⟩).trans hc⟩)
/-- The flags of a place, as search.Flags hands them back. -/
theorem FK9r_mk {vf : Value} {uid : Int} {fs : List ByteArray} {base : Nat} (h : Kd.R Kd.string 9 w base (fun _ => True) vf fs) : Kd.FK k84 w (T9 w) (⟨uid, fs⟩ : Rp) [.int .i64 uid, vf] := by
  have ho := Kd.own_of_R h
  exact Kd.FK_of_M (k84_mkM w base (T9 w) (⟨uid, fs⟩ : Rp) (Kd.R_of_own ho (fun k hk => Kd.R_typed h k hk)))
theorem RW.rrow (h : RW N0 w g v l top) : RRow w N0 v l := h.row
theorem RW.set0 (hb : w.heap[g]? = some (.cells #[v, .int .i64 top] 80 (0, 0))) (hg : N0 ≤ g) (hr : RRow w N0 v1 l) : RW N0 (w.setCell ⟨g, 0, none⟩ v1) g v1 l top := by
  have hne : ∀ k, k ≠ g → (w.setCell ⟨g, 0, none⟩ v1).heap[k]? = w.heap[k]? := fun k hk => Below.heap_setCell w ⟨g, 0, none⟩ v1 k hk
  refine ⟨(blk_set hb 0 v1).trans ?_, hg, hr.keep (fun k hk => hne k ?_) (fun k hk => hne k (T9_ne hk hb (by decide)))⟩
  · simp
  · rintro rfl
    exact Kd.N_ne hr hb (by decide) hk.symm
theorem RW.set1 (h : RW N0 w g v l top) (u : Int) : RW N0 (w.setCell ⟨g, 1, none⟩ (.int .i64 u)) g v l u := by
  have hne : ∀ k, k ≠ g → (w.setCell ⟨g, 1, none⟩ (.int .i64 u)).heap[k]? = w.heap[k]? := fun k hk => Below.heap_setCell w ⟨g, 1, none⟩ _ k hk
  refine ⟨(blk_set h.blk 1 _).trans ?_, h.ge, h.rrow.keep (fun k hk => hne k ?_) (fun k hk => hne k (T9_ne hk h.blk (by decide)))⟩
  · simp
  · rintro rfl
    exact Kd.N_ne h.rrow h.blk (by decide) hk.symm
end
section
variable {P : Program} {ops : Array Oper} {o : Oper} {a : Act} {Q : Exit → Act → World → Prop} {Kc : Act → World → Prop}
theorem RRow_append_step {w0 W : World} {N0 : Nat} (hw : Region.wanted o (yielded ops a.tmps) = true) (s x : Operand) (t : TypeId) (z : Value) (bytes : Nat)
    (ho : o.op = .call { callee := .builtin .append, args := #[s, x], argTypes := #[t, t] })
    (ht : P.underlying t = some (.slice 84)) (hinfo : (P.info? 84).map (fun i => (i.zero, i.size, i.bytes)) = some (some z, 2, bytes)) (hz : z.cells.size = 2) (hb0 : 0 < bytes)
    (v : Value) (xs : List Rp) (p : Rp) (cs : List Value) (hs : a.eval s = v) (hx : a.eval x = .slice (some ⟨W.heap.size, 0, none⟩) 1 1) (hp : Kd.FK k84 W (T9 W) p cs)
    (HO : RRow W N0 v xs) (HB : Below N0 w0 W) (hbase : N0 ≤ W.heap.size) (hl : (xs.length + 1) * bytes ≤ 140737488355328)
    (h : ∀ v1 w1, RRow w1 N0 v1 (xs ++ [p]) → Below N0 w0 w1 → W.grownBy w1 v.ownBlock → (v1.ownBlock = v.ownBlock ∨ ∃ b, v1.ownBlock = some b ∧ W.heap.size ≤ b) → Kc (a.put o.dst v1) w1) :
    if Region.wanted o (yielded ops a.tmps) = true then Oper.wp P o a (W.alloc (.cells cs.toArray 84)) Kc Q else Kc (a.put o.dst undef) (W.alloc (.cells cs.toArray 84)) := by
  have hn := fun k (hk : T9 W k) => HO.ne9 hk
  obtain ⟨rows, hlr, hR, hf⟩ := HO.rows
  refine Kd.R_append_step (Kd.raw 2) N0 hw s x t 84 z bytes ho ht hinfo hz (by decide) hb0 v rows cs cs (fun _ => True) (fun _ => False) hs hx (Kd.FK_raw hp) (fun _ hk => hk.elim) (fun _ _ => trivial) (Kd.raw_any hR) HB hbase (by rw [hlr]; exact hl) ?_
  intro v1 w1 hr hb hg hat
  have ht9 : ∀ k, T9 W k → w1.heap[k]? = W.heap[k]? := fun k hk => hg.block k hk.lt (hn k hk)
  refine h v1 w1 (RRow.mk (rows := rows ++ [cs]) (by simp [hlr]) hr (fun j y c hy hc => ?_)) hb hg hat
  by_cases hj : j < xs.length
  · rw [List.getElem?_append_left hj] at hy
    rw [List.getElem?_append_left (by omega)] at hc
    exact FK9r_step (hf j y c hy hc) ht9
  · rw [List.getElem?_append_right (by omega)] at hy hc
    rw [hlr] at hc
    rcases hjj : j - xs.length with _ | m
    · rw [hjj] at hy hc
      simp only [List.getElem?_cons_zero, Option.some.injEq] at hy hc
      rw [← hy, ← hc]
      exact FK9r_step hp ht9
    · rw [hjj] at hy
      simp at hy
end
theorem RW.drew {N0 : Nat} {w : World} {g : Nat} {v : Value} {l : List Rp} {top : Int} (h : RW N0 w g v l top) : RW N0 w.drew g v l top := h.below (below_drew (Below.refl _ _))
/-- The document's View's types. -/
abbrev TR : List TypeId := [80, 84]
theorem RW.typed {w : World} {N0 g : Nat} {v : Value} {l : List Rp} {top : Int} (h : RW N0 w g v l top) : ∀ k, VS g v k → ∀ o : Obj, w.heap[k]? = some o → ∃ c t f, o = Obj.cells c t f ∧ t ∈ TR := by
  rintro k (rfl | hk) o ho
  · rw [h.blk] at ho
    exact ⟨_, _, _, (Option.some.inj ho).symm, by decide⟩
  · obtain ⟨c, hb⟩ := Kd.N_typed h.row k hk
    rw [hb] at ho
    exact ⟨_, _, _, (Option.some.inj ho).symm, by decide⟩
theorem RW.chg {w w' : World} {N0 g : Nat} {v : Value} {l : List Rp} {top : Int} (h : RW N0 w g v l top) (hk : Kept w w' (VS g v)) : Chg TR w w' := Chg.of_kept hk h.typed
theorem RW.of_chg {T : List TypeId} {w w' : World} {N0 g : Nat} {v : Value} {l : List Rp} {top : Int} (h : RW N0 w g v l top) (hc : Chg T w w') (h9 : 9 ∉ T) (hv : 80 ∉ T) (hp : 84 ∉ T) : RW N0 w' g v l top :=
  ⟨hc.cells h.blk hv, h.ge, TN.chg h.row hc h9 hp⟩
theorem VW.of_chg {T : List TypeId} {w w' : World} {N0 g : Nat} {v : Value} {l : List Pl} {top : Int} (h : VW N0 w g v l top) (hc : Chg T w w') (h9 : 9 ∉ T) (hv : 70 ∉ T) (hp : 74 ∉ T) : VW N0 w' g v l top :=
  ⟨hc.cells h.blk hv, h.ge, TN.chg h.row hc h9 hp⟩
end Go.Proofs.YtmpngedfnheilaaDoor.PP
