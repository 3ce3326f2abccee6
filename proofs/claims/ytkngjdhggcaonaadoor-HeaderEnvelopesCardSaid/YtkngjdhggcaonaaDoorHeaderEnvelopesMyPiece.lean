/- YtkngjdhggcaonaaDoorMyPiece, as far as HeaderEnvelopes needs it (prune.py). -/
import Derived.Test.YtkngjdhggcaonaaDoorHeaderEnvelopesMyBits
namespace Go.Proofs.YtkngjdhggcaonaaDoor.My
open Go.RowKit
set_option linter.unusedVariables false
set_option linter.unusedSimpArgs false
def IsPc (T e : TypeId) (g : Nat) (w : World) (bs : List UInt8) (nm : ByteArray) (an cl : Bool) : Prop :=
  ∃ v, w.heap[g]? = some (.cells #[v, .string nm, .bool an, .bool cl] T (0, 0)) ∧ w.ownsRow (g + 1) e 1 v bs.length (Lib.byteCells bs)
variable {T e : TypeId} {g : Nat} {w : World} {bs : List UInt8} {nm : ByteArray} {an cl : Bool}
theorem IsPc.lt (h : IsPc T e g w bs nm an cl) : g < w.heap.size := by
  obtain ⟨v, h, _⟩ := h
  exact (Array.getElem?_eq_some_iff.1 h).1
theorem IsPc.cell1 (h : IsPc T e g w bs nm an cl) : w.cell? ⟨g, 1, none⟩ = some (.string nm) := by
  obtain ⟨v, h, _⟩ := h
  simp [World.cell?, h]
theorem IsPc.cell2 (h : IsPc T e g w bs nm an cl) : w.cell? ⟨g, 2, none⟩ = some (.bool an) := by
  obtain ⟨v, h, _⟩ := h
  simp [World.cell?, h]
theorem IsPc.cell3 (h : IsPc T e g w bs nm an cl) : w.cell? ⟨g, 3, none⟩ = some (.bool cl) := by
  obtain ⟨v, h, _⟩ := h
  simp [World.cell?, h]
theorem IsPc.frozen (h : IsPc T e g w bs nm an cl) (i : Nat) : w.frozen? ⟨g, i, none⟩ = false := by
  obtain ⟨v, h, _⟩ := h
  simp [World.frozen?, h]
theorem IsPc.fresh (T e : TypeId) (w : World) : IsPc T e w.heap.size (w.alloc (.cells #[.slice none 0 0, .string ⟨#[]⟩, .bool false, .bool false] T)) [] ⟨#[]⟩ false false :=
  ⟨.slice none 0 0, heap_alloc_new w _, World.ownsRow_nil _ _ _ _⟩
theorem IsPc.alloc (h : IsPc T e g w bs nm an cl) (o : Obj) : IsPc T e g (w.alloc o) bs nm an cl := by
  have hl := h.lt
  obtain ⟨v, h1, h2⟩ := h
  exact ⟨v, (Below.heap_alloc w o g hl).trans h1, h2.alloc o⟩
theorem IsPc.drew (h : IsPc T e g w bs nm an cl) : IsPc T e g w.drew bs nm an cl := h
theorem IsPc.setName (h : IsPc T e g w bs nm an cl) (x : ByteArray) : IsPc T e g (w.setCell ⟨g, 1, none⟩ (.string x)) bs x an cl := by
  obtain ⟨v, h1, h2⟩ := h
  exact ⟨v, by simp [World.setCell, Array.getElem?_modify, h1], own_far h2 1 _⟩
theorem IsPc.setAngle (h : IsPc T e g w bs nm an cl) (x : Bool) : IsPc T e g (w.setCell ⟨g, 2, none⟩ (.bool x)) bs nm x cl := by
  obtain ⟨v, h1, h2⟩ := h
  exact ⟨v, by simp [World.setCell, Array.getElem?_modify, h1], own_far h2 2 _⟩
theorem IsPc.setClosed (h : IsPc T e g w bs nm an cl) (x : Bool) : IsPc T e g (w.setCell ⟨g, 3, none⟩ (.bool x)) bs nm an x := by
  obtain ⟨v, h1, h2⟩ := h
  exact ⟨v, by simp [World.setCell, Array.getElem?_modify, h1], own_far h2 3 _⟩
/-- Nothing is said any more. -/
theorem IsPc.clear (h : IsPc T e g w bs nm an cl) : IsPc T e g (w.setCell ⟨g, 0, none⟩ (.slice none 0 0)) [] nm an cl := by
  obtain ⟨v, h1, h2⟩ := h
  exact ⟨.slice none 0 0, by simp [World.setCell, Array.getElem?_modify, h1], World.ownsRow_nil _ _ _ _⟩
theorem IsPc.put {w' : World} {v v' : Value} {m : Nat} {bs' : List UInt8} (h1 : w.heap[g]? = some (.cells #[v, .string nm, .bool an, .bool cl] T (0, 0))) (h2 : w.ownsRow (g + 1) e 1 v bs.length (Lib.byteCells bs))
    (hg : w.grownBy w' v.ownBlock) (h3 : w'.ownsRow (g + 1) e 1 v' m (Lib.byteCells bs')) (hm : m = bs'.length) : IsPc T e g (w'.setCell ⟨g, 0, none⟩ v') bs' nm an cl := by
  have hl : g < w.heap.size := (Array.getElem?_eq_some_iff.1 h1).1
  have h4 : w'.heap[g]? = w.heap[g]? := hg.block g hl (fun e' => by rcases ownNe h2 with h | h; rw [h] at e'; cases e'; exact h e'.symm)
  subst hm
  exact ⟨v', by simp [World.setCell, Array.getElem?_modify, h4, h1], own_far h3 0 _⟩
/-- Whatever is made, if all that was is as it was. -/
theorem IsPc.later {w' : World} (h : IsPc T e g w bs nm an cl) (hb : Below w.heap.size w w') : IsPc T e g w' bs nm an cl := by
  obtain ⟨v, h1, h2⟩ := h
  have hl : g < w.heap.size := (Array.getElem?_eq_some_iff.1 h1).1
  refine ⟨v, (hb.block g hl).trans h1, h2.1, ?_⟩
  rcases h2.2 with h3 | ⟨g', cap, cur, e1, e2, e3, e4⟩
  · exact .inl h3
  · exact .inr ⟨g', cap, cur, e1, e2, (hb.block g' (Array.getElem?_eq_some_iff.1 e3).1).trans e3, e4⟩
theorem Kept.later {a b c : World} {e : TypeId} {g : Nat} (h : Kept e g a b) (hg : g ≤ b.heap.size) (hb : Below b.heap.size b c) : Kept e g a c :=
  ⟨h.below.trans (hb.mono hg), h.others.trans (fun i o hi _ _ => (hb.block i (Array.getElem?_eq_some_iff.1 hi).1).trans hi)⟩
theorem Kept.setFar {a b : World} {e : TypeId} {g k : Nat} (h : Kept e g a b) (hk : a.heap.size ≤ k) (hg : g ≤ k) (i : Nat) (v : Value) : Kept e g a (b.setCell ⟨k, i, none⟩ v) :=
  ⟨h.below.setCell (p := ⟨k, i, none⟩) hg v, fun j o hj hb ho => (Below.heap_setCell b ⟨k, i, none⟩ v j (by have := (Array.getElem?_eq_some_iff.1 hj).1; show j ≠ k; omega)).trans (h.others j o hj hb ho)⟩
theorem IsPc.setOther {d q : Nat} {cells : Array Value} {fz : Nat × Nat} (h : IsPc T e g w bs nm an cl) (hd : w.heap[d]? = some (.cells cells q fz)) (hq : q ≠ e) (hne : g ≠ d) (i : Nat) (u : Value) : IsPc T e g (w.setCell ⟨d, i, none⟩ u) bs nm an cl := by
  obtain ⟨v, h1, h2⟩ := h
  refine ⟨v, (Below.heap_setCell w ⟨d, i, none⟩ u g hne).trans h1, h2.1, ?_⟩
  rcases h2.2 with h3 | ⟨g', cap, cur, e1, e2, e3, e4⟩
  · exact .inl h3
  · refine .inr ⟨g', cap, cur, e1, e2, (Below.heap_setCell w ⟨d, i, none⟩ u g' ?_).trans e3, e4⟩
    intro e0
    have e0 : g' = d := e0
    rw [e0] at e3
    have e5 := hd.symm.trans e3
    injection e5 with e5
    injection e5 with _ e6
    exact hq e6
theorem IsPc.set3 {d q : Nat} {x y z : Value} {fz : Nat × Nat} (h : IsPc T e g w bs nm an cl) (hd : w.heap[d]? = some (.cells #[x, y, z] q fz)) (hq : q ≠ e) (hne : g ≠ d) (u0 u1 u2 : Value) :
    IsPc T e g (((w.setCell ⟨d, 0, none⟩ u0).setCell ⟨d, 1, none⟩ u1).setCell ⟨d, 2, none⟩ u2).drew bs nm an cl := by
  have h1 := h.setOther hd hq hne 0 u0
  have d1 : (w.setCell ⟨d, 0, none⟩ u0).heap[d]? = some (.cells #[u0, y, z] q fz) := by simp [World.setCell, Array.getElem?_modify, hd]
  have h2 := h1.setOther d1 hq hne 1 u1
  have d2 : ((w.setCell ⟨d, 0, none⟩ u0).setCell ⟨d, 1, none⟩ u1).heap[d]? = some (.cells #[u0, u1, z] q fz) := by simp [World.setCell, Array.getElem?_modify, hd]
  exact (h2.setOther d2 hq hne 2 u2).drew
theorem Kept.set3 {a b : World} {e : TypeId} {g k : Nat} (h : Kept e g a b) (hk : a.heap.size ≤ k) (hg : g ≤ k) (u0 u1 u2 : Value) : Kept e g a (((b.setCell ⟨k, 0, none⟩ u0).setCell ⟨k, 1, none⟩ u1).setCell ⟨k, 2, none⟩ u2).drew :=
  (((h.setFar hk hg 0 u0).setFar hk hg 1 u1).setFar hk hg 2 u2).drew
end Go.Proofs.YtkngjdhggcaonaaDoor.My
