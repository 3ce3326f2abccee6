/- YtakfdmhoooeejaaDoorMyBits, as far as WireEnds needs it (prune.py). -/
import Derived.Lib.OthersKept
import Derived.Lib.UnsafeStr
import Derived.Lib.BufferWrite
import Derived.Test.YtakfdmhoooeejaaDoorWireEndsMyRd
namespace Go.Proofs.YtakfdmhoooeejaaDoor.My
open Go.RowKit
set_option linter.unusedVariables false
set_option linter.unusedSimpArgs false
def IsBits (T e : TypeId) (g : Nat) (w : World) (bs : List UInt8) (x n : Int) : Prop :=
  ∃ v, w.heap[g]? = some (.cells #[v, .int .u32 x, .int .u32 n] T (0, 0)) ∧ w.ownsRow (g + 1) e 1 v bs.length (Lib.byteCells bs)
theorem ownNe {w : World} {g : Nat} {e : TypeId} {v : Value} {n : Nat} {xs : List Value} (h : w.ownsRow (g + 1) e 1 v n xs) : v.ownBlock = none ∨ v.ownBlock ≠ some g := by
  cases hv : v.ownBlock with
  | none => exact .inl rfl
  | some k => exact .inr (fun e => by injection e with e; have := (h.lt k hv).1; omega)
theorem own_far {w : World} {g : Nat} {e : TypeId} {v : Value} {n : Nat} {xs : List Value} (h : w.ownsRow (g + 1) e 1 v n xs) (i : Nat) (u : Value) : (w.setCell ⟨g, i, none⟩ u).ownsRow (g + 1) e 1 v n xs :=
  h.kept (only_setCell (only_refl w g) (.inl rfl) u) (ownNe h)
variable {T e : TypeId} {g : Nat} {w : World} {bs : List UInt8} {x n : Int}
theorem IsBits.lt (h : IsBits T e g w bs x n) : g < w.heap.size := by
  obtain ⟨v, h, _⟩ := h
  exact (Array.getElem?_eq_some_iff.1 h).1
theorem IsBits.frozen (h : IsBits T e g w bs x n) (i : Nat) : w.frozen? ⟨g, i, none⟩ = false := by
  obtain ⟨v, h, _⟩ := h
  simp [World.frozen?, h]
theorem IsBits.alloc (h : IsBits T e g w bs x n) (o : Obj) : IsBits T e g (w.alloc o) bs x n := by
  have hl := h.lt
  obtain ⟨v, h1, h2⟩ := h
  exact ⟨v, (Below.heap_alloc w o g hl).trans h1, h2.alloc o⟩
theorem IsBits.drew (h : IsBits T e g w bs x n) : IsBits T e g w.drew bs x n := h
/-- The row grown, and stored. -/
theorem IsBits.put {w' : World} {v v' : Value} {m : Nat} {bs' : List UInt8} (h1 : w.heap[g]? = some (.cells #[v, .int .u32 x, .int .u32 n] T (0, 0))) (h2 : w.ownsRow (g + 1) e 1 v bs.length (Lib.byteCells bs))
    (hg : w.grownBy w' v.ownBlock) (h3 : w'.ownsRow (g + 1) e 1 v' m (Lib.byteCells bs')) (hm : m = bs'.length) : IsBits T e g (w'.setCell ⟨g, 0, none⟩ v') bs' x n := by
  have hl : g < w.heap.size := (Array.getElem?_eq_some_iff.1 h1).1
  have h4 : w'.heap[g]? = w.heap[g]? := hg.block g hl (fun e' => by rcases ownNe h2 with h | h; rw [h] at e'; cases e'; exact h e'.symm)
  subst hm
  exact ⟨v', by simp [World.setCell, Array.getElem?_modify, h4, h1], own_far h3 0 _⟩
/-- What a call with the pointer keeps: what lies below, and whatever is no row of bytes. -/
structure Kept (e : TypeId) (g : Nat) (w w' : World) : Prop where
  below : Below g w w'
  others : Lib.OthersKept e (some g) w w'
theorem Kept.refl (e : TypeId) (g : Nat) (w : World) : Kept e g w w := ⟨Below.refl g w, Lib.OthersKept.refl e (some g) w⟩
theorem Kept.trans {a b c : World} (h : Kept e g a b) (k : Kept e g b c) : Kept e g a c := ⟨h.below.trans k.below, h.others.trans k.others⟩
theorem Kept.drew {a b : World} (h : Kept e g a b) : Kept e g a b.drew := ⟨h.below.drew, h.others.drew⟩
theorem Kept.alloc {a b : World} (h : Kept e g a b) (hg : g ≤ b.heap.size) (o : Obj) : Kept e g a (b.alloc o) := ⟨h.below.alloc hg o, h.others.alloc o⟩
theorem Kept.setCell {a b : World} (h : Kept e g a b) (i : Nat) (v : Value) : Kept e g a (b.setCell ⟨g, i, none⟩ v) := ⟨h.below.setCell (p := ⟨g, i, none⟩) (Nat.le_refl _) v, h.others.setCell ⟨g, i, none⟩ rfl v⟩
theorem Kept.grown {a b c : World} {v : Value} {m : Nat} {xs : List Value} (h : Kept e g a b) (hl : g ≤ b.heap.size) (h2 : b.ownsRow (g + 1) e 1 v m xs) (hg : b.grownBy c v.ownBlock) : Kept e g a c :=
  ⟨h.below.grown hg hl (fun k hk => by have := (h2.lt k hk).1; omega), h.others.grown hg (fun k hk => Lib.ownsRowF_kind (World.ownsRowF_of h2) k hk)⟩
end Go.Proofs.YtakfdmhoooeejaaDoor.My
