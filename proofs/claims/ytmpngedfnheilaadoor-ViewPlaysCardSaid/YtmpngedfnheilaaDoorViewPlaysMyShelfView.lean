/- MyRd, MyBits, MyShelfView (mergeall.py). -/
import Derived.Below
import Derived.Laws.OwnMore
import Derived.Deep.Draws
import Derived.Laws.Rows
import Derived.Laws.AppendOwn
import Derived.Lib.ConvBytes
import Derived.Laws.BytesArg
import Derived.Test.YtmpngedfnheilaaDoorViewPlaysWWords
import Derived.Test.YtmpngedfnheilaaDoorViewPlaysWLast
import Derived.Lib.OthersKept
import Derived.Lib.UnsafeStr
import Derived.Lib.BufferWrite
import Derived.Test.YtmpngedfnheilaaDoorProg
import Derived.WalkKit
import Derived.Ground.NamesProg
import Derived.Shelf.Lay
import Derived.Shelf.Small.Strs
import Derived.Shelf.Strings.SlTrimAscii
import Derived.Shelf.Sort.Plain
import Derived.Shelf.Slices.In.SortNone
import Derived.Lib.SliceRun
namespace Go.Proofs.YtmpngedfnheilaaDoor.My
open Go.RowKit Go.Proofs.YtmpngedfnheilaaDoorW.PrintWords Go.Proofs.YtmpngedfnheilaaDoorW.PrintLast Go.Proofs.YtmpngedfnheilaaDoorW.PrintMore
set_option linter.unusedVariables false
set_option linter.unusedSimpArgs false
/-- What a text's length is, as the walk spells it: all at once, for simp. -/
theorem pps : (∀ a b : ByteArray, (a ++ b).size = a.size + b.size) ∧ (∀ (a : ByteArray) (i j : Nat), (a.extract i j).size = min j a.size - i) ∧ (∀ n : Nat, min n n = n) ∧ (∀ n : Nat, n - 0 = n) ∧ (∀ a : Array UInt8, ByteArray.size ⟨a⟩ = a.size) ∧
    (∀ l : List UInt8, l.toArray.size = l.length) ∧ (∀ (a : UInt8) (l : List UInt8), (a :: l).length = l.length + 1) ∧ (([] : List UInt8).length = 0) ∧ (∀ n : Nat, 0 + n = n) :=
  ⟨fun _ _ => ByteArray.size_append, fun _ _ _ => ByteArray.size_extract, fun n => Nat.min_self n, fun _ => rfl, fun _ => rfl, fun _ => rfl, fun _ _ => rfl, rfl, fun n => Nat.zero_add n⟩
/-- Block g holds one text: l. -/
def Rdr (w : World) (g : Nat) (t : TypeId) (l : List UInt8) : Prop := w.heap[g]? = some (.cells #[.string ⟨l.toArray⟩] t (0, 0))
section
variable {w w' : World} {g : Nat} {t : TypeId} {l : List UInt8}
theorem Rdr.lt (h : Rdr w g t l) : g < w.heap.size := (Array.getElem?_eq_some_iff.1 h).1
theorem Rdr.cell (h : Rdr w g t l) : w.cell? ⟨g, 0, none⟩ = some (.string ⟨l.toArray⟩) := by
  rw [cell_of_row w g 0 _ t (0, 0) h]; rfl
theorem Rdr.set (h : Rdr w g t l) (l' : List UInt8) : Rdr (w.setCell ⟨g, 0, none⟩ (.string ⟨l'.toArray⟩)) g t l' := by
  unfold Rdr at h ⊢
  simp [World.setCell, Array.getElem?_modify, h]
theorem Rdr.drewN (h : Rdr w g t l) (n : Nat) : Rdr (w.drewN n) g t l := h
theorem Rdr.drew (h : Rdr w g t l) : Rdr w.drew g t l := h
theorem Rdr.alloc (h : Rdr w g t l) (o : Obj) : Rdr (w.alloc o) g t l := (Below.heap_alloc w o g h.lt).trans h
theorem Rdr.far (h : Rdr w g t l) {p : Addr} (hp : g ≠ p.block) (u : Value) : Rdr (w.setCell p u) g t l := (Below.heap_setCell w p u g hp).trans h
theorem Rdr.below {B : Nat} (h : Rdr w g t l) (hb : Below B w w') (hg : g < B) : Rdr w' g t l := (hb.block g hg).trans h
theorem Rdr.grown {row : Option Nat} (h : Rdr w g t l) (hb : w.grownBy w' row) (hg : some g ≠ row) : Rdr w' g t l := (hb.block g h.lt hg).trans h
end
/-- Only block g, and what is new, has turned. -/
theorem only_refl (w : World) (g : Nat) : w.grownBy w (some g) := ⟨rfl, rfl, rfl, Nat.le_refl _, fun _ _ _ => rfl⟩
theorem only_setCell {a w : World} {g : Nat} (h : a.grownBy w (some g)) {p : Addr} (hp : p.block = g ∨ a.heap.size ≤ p.block) (u : Value) : a.grownBy (w.setCell p u) (some g) :=
  ⟨h.os, h.tape, h.output, by simpa [World.setCell] using h.size, fun i hi hne => (Below.heap_setCell w p u i (by
    rintro rfl
    rcases hp with hp | hp
    · exact hne (by rw [hp])
    · omega)).trans (h.block i hi hne)⟩
def lowC (c : UInt8) : UInt8 := if 65 ≤ c ∧ c ≤ 90 then c + 32 else c
def lowL (l : List UInt8) : List UInt8 := l.map lowC
/-- The block of a conversion's bytes, the first k of which are turned by f. -/
def ConvInv (f : UInt8 → UInt8) (s : ByteArray) (g : Nat) (e : TypeId) (k : Nat) (w : World) : Prop :=
  ∃ cs : Array Value, w.heap[g]? = some (.cells cs e (cs.size, cs.size + 1)) ∧ s.size ≤ cs.size ∧
    ∀ j (h : j < s.size), cs[j]? = some (.int .u8 ((if j < k then f s[j] else s[j]).toNat : Int))
theorem ConvInv.start (f : UInt8 → UInt8) (W : World) (e : TypeId) (s : ByteArray) : ConvInv f s W.heap.size e 0 (Lib.bytesWorld W e s) := by
  refine ⟨Lib.bytesCells W e s, Lib.bytesWorld_at_new W e s, ?_, ?_⟩
  · simp [Lib.bytesCells]
  · intro j h
    have h' : j < s.data.size := h
    simp [Lib.bytesCells, Array.getElem?_append, h, Array.getElem?_eq_getElem h']
    rfl
theorem ConvInv.cell {f : UInt8 → UInt8} {s : ByteArray} {g : Nat} {e : TypeId} {k : Nat} {w : World} (h : ConvInv f s g e k w) (hk : k < s.size) :
    w.cell? ⟨g, k, none⟩ = some (.int .u8 (s[k].toNat : Int)) ∧ w.frozen? ⟨g, k, none⟩ = false := by
  obtain ⟨cs, h1, h2, h3⟩ := h
  have := h3 k hk
  refine ⟨by simp [World.cell?, h1, this], ?_⟩
  simp [World.frozen?, h1]
  omega
theorem ConvInv.put {f : UInt8 → UInt8} {s : ByteArray} {g : Nat} {e : TypeId} {k : Nat} {w : World} (h : ConvInv f s g e k w) (hk : k < s.size) (v : Int) (hv : v = ((f s[k]).toNat : Int)) :
    ConvInv f s g e (k + 1) (w.setCell ⟨g, k, none⟩ (.int .u8 v)) := by
  obtain ⟨cs, h1, h2, h3⟩ := h
  have hsz : (cs.setIfInBounds k (.int .u8 v)).size = cs.size := by simp
  refine ⟨cs.setIfInBounds k (.int .u8 v), ?_, by rw [hsz]; exact h2, ?_⟩
  · rw [hsz]; simp [World.setCell, Array.getElem?_modify, h1]
  · intro j hj
    by_cases e1 : j = k
    · subst e1
      rw [Array.getElem?_setIfInBounds_self_of_lt (by omega), hv, if_pos (by omega)]
    · rw [Array.getElem?_setIfInBounds_ne (by omega), h3 j hj]
      by_cases h4 : j < k
      · rw [if_pos h4, if_pos (by omega)]
      · rw [if_neg h4, if_neg (by omega)]
theorem ConvInv.same {f : UInt8 → UInt8} {s : ByteArray} {g : Nat} {e : TypeId} {k : Nat} {w : World} (h : ConvInv f s g e k w) (hk : k < s.size) (hv : f s[k] = s[k]) : ConvInv f s g e (k + 1) w := by
  obtain ⟨cs, h1, h2, h3⟩ := h
  refine ⟨cs, h1, h2, fun j hj => ?_⟩
  rw [h3 j hj]
  by_cases e1 : j = k
  · subst e1; rw [if_neg (by omega), if_pos (by omega), hv]
  · by_cases h4 : j < k
    · rw [if_pos h4, if_pos (by omega)]
    · rw [if_neg h4, if_neg (by omega)]
theorem ConvInv.reads {f : UInt8 → UInt8} {s : ByteArray} {g : Nat} {e : TypeId} {w : World} (h : ConvInv f s g e s.size w) (hs : s.size ≤ 9223372036854775807) :
    ReadsInt w .u8 (some ⟨g, 0, none⟩) s.size ((s.data.toList.map f).map fun b => (b.toNat : Int)) := by
  obtain ⟨cs, h1, h2, h3⟩ := h
  refine ⟨by simp, hs, fun _ => ⟨_, rfl, fun j hj => ?_⟩⟩
  rw [add_plain]
  have h' : j < s.data.size := hj
  have := h3 j hj
  rw [if_pos hj] at this
  simp [World.cell?, h1, this, List.getD_eq_getElem?_getD, Array.getElem?_eq_getElem h']
  rfl
theorem strOf_map (l : List UInt8) : strOfNums (l.map fun b => (b.toNat : Int)) = ⟨l.toArray⟩ := by
  unfold strOfNums
  congr 1
  induction l with
  | nil => rfl
  | cons a l ih => simp_all
end Go.Proofs.YtmpngedfnheilaaDoor.My

namespace Go.Proofs.YtmpngedfnheilaaDoor.My
open Go.RowKit
set_option linter.unusedVariables false
set_option linter.unusedSimpArgs false
def IsBits (T e : TypeId) (g : Nat) (w : World) (bs : List UInt8) (x n : Int) : Prop :=
  ∃ v, w.heap[g]? = some (.cells #[v, .int .u32 x, .int .u32 n] T (0, 0)) ∧ w.ownsRow (g + 1) e 1 v bs.length (Lib.byteCells bs)
theorem ownNe {w : World} {g : Nat} {e : TypeId} {v : Value} {n : Nat} {xs : List Value} (h : w.ownsRow (g + 1) e 1 v n xs) : v.ownBlock = none ∨ v.ownBlock ≠ some g := by
  cases hv : v.ownBlock with
  | none => exact .inl rfl
  | some k => exact .inr (fun e => by injection e with e; have := (h.lt k hv).1; omega)
theorem own_far {w : World} {g : Nat} {e : TypeId} {v : Value} {n : Nat} {xs : List Value} (h : w.ownsRow (g + 1) e 1 v n xs) (i : Nat) (u : Value) : (w.setCell ⟨g, i, none⟩ u).ownsRow (g + 1) e 1 v n xs :=
  h.kept (only_setCell (only_refl w g) (.inl rfl) u) (ownNe h)
variable {T e : TypeId} {g : Nat} {w : World} {bs : List UInt8} {x n : Int}
theorem IsBits.lt (h : IsBits T e g w bs x n) : g < w.heap.size := by
  obtain ⟨v, h, _⟩ := h
  exact (Array.getElem?_eq_some_iff.1 h).1
theorem IsBits.cell1 (h : IsBits T e g w bs x n) : w.cell? ⟨g, 1, none⟩ = some (.int .u32 x) := by
  obtain ⟨v, h, _⟩ := h
  simp [World.cell?, h]
theorem IsBits.fresh (T e : TypeId) (w : World) : IsBits T e w.heap.size (w.alloc (.cells #[.slice none 0 0, .int .u32 0, .int .u32 0] T)) [] 0 0 :=
  ⟨.slice none 0 0, heap_alloc_new w _, World.ownsRow_nil _ _ _ _⟩
theorem IsBits.alloc (h : IsBits T e g w bs x n) (o : Obj) : IsBits T e g (w.alloc o) bs x n := by
  have hl := h.lt
  obtain ⟨v, h1, h2⟩ := h
  exact ⟨v, (Below.heap_alloc w o g hl).trans h1, h2.alloc o⟩
theorem IsBits.drew (h : IsBits T e g w bs x n) : IsBits T e g w.drew bs x n := h
/-- The row grown, and stored. -/
theorem IsBits.put {w' : World} {v v' : Value} {m : Nat} {bs' : List UInt8} (h1 : w.heap[g]? = some (.cells #[v, .int .u32 x, .int .u32 n] T (0, 0))) (h2 : w.ownsRow (g + 1) e 1 v bs.length (Lib.byteCells bs))
    (hg : w.grownBy w' v.ownBlock) (h3 : w'.ownsRow (g + 1) e 1 v' m (Lib.byteCells bs')) (hm : m = bs'.length) : IsBits T e g (w'.setCell ⟨g, 0, none⟩ v') bs' x n := by
  have hl : g < w.heap.size := (Array.getElem?_eq_some_iff.1 h1).1
  have h4 : w'.heap[g]? = w.heap[g]? := hg.block g hl (fun e' => by rcases ownNe h2 with h | h; rw [h] at e'; cases e'; exact h e'.symm)
  subst hm
  exact ⟨v', by simp [World.setCell, Array.getElem?_modify, h4, h1], own_far h3 0 _⟩
/-- What a call with the pointer keeps: what lies below, and whatever is no row of bytes. -/
structure Kept (e : TypeId) (g : Nat) (w w' : World) : Prop where
  below : Below g w w'
  others : Lib.OthersKept e (some g) w w'
theorem Kept.refl (e : TypeId) (g : Nat) (w : World) : Kept e g w w := ⟨Below.refl g w, Lib.OthersKept.refl e (some g) w⟩
theorem Kept.trans {a b c : World} (h : Kept e g a b) (k : Kept e g b c) : Kept e g a c := ⟨h.below.trans k.below, h.others.trans k.others⟩
theorem Kept.drew {a b : World} (h : Kept e g a b) : Kept e g a b.drew := ⟨h.below.drew, h.others.drew⟩
theorem Kept.alloc {a b : World} (h : Kept e g a b) (hg : g ≤ b.heap.size) (o : Obj) : Kept e g a (b.alloc o) := ⟨h.below.alloc hg o, h.others.alloc o⟩
theorem Kept.setCell {a b : World} (h : Kept e g a b) (i : Nat) (v : Value) : Kept e g a (b.setCell ⟨g, i, none⟩ v) := ⟨h.below.setCell (p := ⟨g, i, none⟩) (Nat.le_refl _) v, h.others.setCell ⟨g, i, none⟩ rfl v⟩
theorem Kept.grown {a b c : World} {v : Value} {m : Nat} {xs : List Value} (h : Kept e g a b) (hl : g ≤ b.heap.size) (h2 : b.ownsRow (g + 1) e 1 v m xs) (hg : b.grownBy c v.ownBlock) : Kept e g a c :=
  ⟨h.below.grown hg hl (fun k hk => by have := (h2.lt k hk).1; omega), h.others.grown hg (fun k hk => Lib.ownsRowF_kind (World.ownsRowF_of h2) k hk)⟩
end Go.Proofs.YtmpngedfnheilaaDoor.My

namespace Go.Proofs
open Go.Shelf
shelf_lay Lays.n137 Nm 137 at Tryd as Tryd.lays137
shelf_lay Lays.n160 Nm 160 at Tryd as Tryd.lays160
shelf_lay Lays.n190 Nm 190 at Tryd as Tryd.lays190
end Go.Proofs
namespace Go.Proofs.YtmpngedfnheilaaDoor.My
open Go.RowKit Go.Shelf Go.Lib Go.Sort
theorem indexByte_any (s : ByteArray) (c : Int) (w : World) :
    Calls Tryd.prog 63 #[.string s, .int .u8 c] w fun e w' => e = .returned (.int .i64 (Lib.indexByte s.data.toList c.toNat.toUInt8)) ∧ w' = w :=
  Any.strings_IndexByte Tryd.lays137 s c w
theorem trim_any (s cut : ByteArray) (w : World) (hs : s.size ≤ 9223372036854775807) (hcs : cut.size < 4294967281) (hascii : ∀ (j : Nat) b, cut.data.toList[j]? = some b → b.toNat < 128) :
    Calls Tryd.prog 62 #[.string s, .string cut] w fun e w' => e = .returned (.string ⟨(Lib.trimS s.data.toList cut.data.toList).toArray⟩) ∧ Below w.heap.size w w' :=
  Any.strings_Trim_laid Tryd.lays160 (by kernel_rfl) s cut w hs hcs hascii
theorem sortS_any (blk off cap : Nat) (ss : List (List UInt8)) (w : World) (hH : Holds encStr w blk off ss.toArray) (hblk : blk < w.heap.size) (hsz : ss.length < 4611686018427387904) :
    Calls Tryd.prog 55 #[.slice (some ⟨blk, off, none⟩) ss.length cap] w fun e w' =>
      e = .returned (.tuple #[]) ∧ ∃ n os, w' = grow (putRow encStr (Sort.ahead w n) blk off (ss.mergeSort fun x y => decide (x ≤ y)).toArray) os :=
  Any.slices_Sort_string Tryd.lays190 blk off cap ss w hH hblk hsz
theorem sortS_none (p : Option Addr) (cap : Nat) (w : World) :
    Calls Tryd.prog 55 #[.slice p 0 cap] w fun e w' => e = .returned (.tuple #[]) ∧ w' = w :=
  Any.slices_Sort_string_none Tryd.lays190 p cap w
end Go.Proofs.YtmpngedfnheilaaDoor.My
