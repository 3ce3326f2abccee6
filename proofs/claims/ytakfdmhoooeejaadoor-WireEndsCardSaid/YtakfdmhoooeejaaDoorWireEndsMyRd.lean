/- YtakfdmhoooeejaaDoorMyRd, as far as WireEnds needs it (prune.py). -/
import Derived.Below
import Derived.Laws.OwnMore
import Derived.Deep.Draws
import Derived.Laws.Rows
import Derived.Laws.AppendOwn
import Derived.Lib.ConvBytes
import Derived.Laws.BytesArg
import Derived.Test.YtakfdmhoooeejaaDoorWireEndsWWords
import Derived.Test.YtakfdmhoooeejaaDoorWireEndsWLast
namespace Go.Proofs.YtakfdmhoooeejaaDoor.My
open Go.RowKit Go.Proofs.YtakfdmhoooeejaaDoorW.PrintWords Go.Proofs.YtakfdmhoooeejaaDoorW.PrintLast Go.Proofs.YtakfdmhoooeejaaDoorW.PrintMore
set_option linter.unusedVariables false
set_option linter.unusedSimpArgs false
/-- What a text's length is, as the walk spells it: all at once, for simp. -/
theorem pps : (∀ a b : ByteArray, (a ++ b).size = a.size + b.size) ∧ (∀ (a : ByteArray) (i j : Nat), (a.extract i j).size = min j a.size - i) ∧ (∀ n : Nat, min n n = n) ∧ (∀ n : Nat, n - 0 = n) ∧ (∀ a : Array UInt8, ByteArray.size ⟨a⟩ = a.size) ∧
    (∀ l : List UInt8, l.toArray.size = l.length) ∧ (∀ (a : UInt8) (l : List UInt8), (a :: l).length = l.length + 1) ∧ (([] : List UInt8).length = 0) ∧ (∀ n : Nat, 0 + n = n) :=
  ⟨fun _ _ => ByteArray.size_append, fun _ _ _ => ByteArray.size_extract, fun n => Nat.min_self n, fun _ => rfl, fun _ => rfl, fun _ => rfl, fun _ _ => rfl, rfl, fun n => Nat.zero_add n⟩
/-- Block g holds one text: l. -/
def Rdr (w : World) (g : Nat) (t : TypeId) (l : List UInt8) : Prop := w.heap[g]? = some (.cells #[.string ⟨l.toArray⟩] t (0, 0))
section
variable {w w' : World} {g : Nat} {t : TypeId} {l : List UInt8}
theorem Rdr.lt (h : Rdr w g t l) : g < w.heap.size := (Array.getElem?_eq_some_iff.1 h).1
theorem Rdr.cell (h : Rdr w g t l) : w.cell? ⟨g, 0, none⟩ = some (.string ⟨l.toArray⟩) := by
  rw [cell_of_row w g 0 _ t (0, 0) h]; rfl
theorem Rdr.frozen (h : Rdr w g t l) : w.frozen? ⟨g, 0, none⟩ = false := by
  unfold Rdr at h; simp [World.frozen?, h]
theorem Rdr.set (h : Rdr w g t l) (l' : List UInt8) : Rdr (w.setCell ⟨g, 0, none⟩ (.string ⟨l'.toArray⟩)) g t l' := by
  unfold Rdr at h ⊢
  simp [World.setCell, Array.getElem?_modify, h]
theorem Rdr.drewN (h : Rdr w g t l) (n : Nat) : Rdr (w.drewN n) g t l := h
theorem Rdr.drew (h : Rdr w g t l) : Rdr w.drew g t l := h
theorem Rdr.alloc (h : Rdr w g t l) (o : Obj) : Rdr (w.alloc o) g t l := (Below.heap_alloc w o g h.lt).trans h
theorem Rdr.below {B : Nat} (h : Rdr w g t l) (hb : Below B w w') (hg : g < B) : Rdr w' g t l := (hb.block g hg).trans h
theorem Rdr.grown {row : Option Nat} (h : Rdr w g t l) (hb : w.grownBy w' row) (hg : some g ≠ row) : Rdr w' g t l := (hb.block g h.lt hg).trans h
end
/-- Only block g, and what is new, has turned. -/
theorem only_refl (w : World) (g : Nat) : w.grownBy w (some g) := ⟨rfl, rfl, rfl, Nat.le_refl _, fun _ _ _ => rfl⟩
theorem only_setCell {a w : World} {g : Nat} (h : a.grownBy w (some g)) {p : Addr} (hp : p.block = g ∨ a.heap.size ≤ p.block) (u : Value) : a.grownBy (w.setCell p u) (some g) :=
  ⟨h.os, h.tape, h.output, by simpa [World.setCell] using h.size, fun i hi hne => (Below.heap_setCell w p u i (by
    rintro rfl
    rcases hp with hp | hp
    · exact hne (by rw [hp])
    · omega)).trans (h.block i hi hne)⟩
/-- The block of a conversion's bytes, the first k of which are turned by f. -/
def ConvInv (f : UInt8 → UInt8) (s : ByteArray) (g : Nat) (e : TypeId) (k : Nat) (w : World) : Prop :=
  ∃ cs : Array Value, w.heap[g]? = some (.cells cs e (cs.size, cs.size + 1)) ∧ s.size ≤ cs.size ∧
    ∀ j (h : j < s.size), cs[j]? = some (.int .u8 ((if j < k then f s[j] else s[j]).toNat : Int))
theorem ConvInv.cell {f : UInt8 → UInt8} {s : ByteArray} {g : Nat} {e : TypeId} {k : Nat} {w : World} (h : ConvInv f s g e k w) (hk : k < s.size) :
    w.cell? ⟨g, k, none⟩ = some (.int .u8 (s[k].toNat : Int)) ∧ w.frozen? ⟨g, k, none⟩ = false := by
  obtain ⟨cs, h1, h2, h3⟩ := h
  have := h3 k hk
  refine ⟨by simp [World.cell?, h1, this], ?_⟩
  simp [World.frozen?, h1]
  omega
theorem ConvInv.put {f : UInt8 → UInt8} {s : ByteArray} {g : Nat} {e : TypeId} {k : Nat} {w : World} (h : ConvInv f s g e k w) (hk : k < s.size) (v : Int) (hv : v = ((f s[k]).toNat : Int)) :
    ConvInv f s g e (k + 1) (w.setCell ⟨g, k, none⟩ (.int .u8 v)) := by
  obtain ⟨cs, h1, h2, h3⟩ := h
  have hsz : (cs.setIfInBounds k (.int .u8 v)).size = cs.size := by simp
  refine ⟨cs.setIfInBounds k (.int .u8 v), ?_, by rw [hsz]; exact h2, ?_⟩
  · rw [hsz]; simp [World.setCell, Array.getElem?_modify, h1]
  · intro j hj
    by_cases e1 : j = k
    · subst e1
      rw [Array.getElem?_setIfInBounds_self_of_lt (by omega), hv, if_pos (by omega)]
    · rw [Array.getElem?_setIfInBounds_ne (by omega), h3 j hj]
      by_cases h4 : j < k
      · rw [if_pos h4, if_pos (by omega)]
      · rw [if_neg h4, if_neg (by omega)]
theorem ConvInv.same {f : UInt8 → UInt8} {s : ByteArray} {g : Nat} {e : TypeId} {k : Nat} {w : World} (h : ConvInv f s g e k w) (hk : k < s.size) (hv : f s[k] = s[k]) : ConvInv f s g e (k + 1) w := by
  obtain ⟨cs, h1, h2, h3⟩ := h
  refine ⟨cs, h1, h2, fun j hj => ?_⟩
  rw [h3 j hj]
  by_cases e1 : j = k
  · subst e1; rw [if_neg (by omega), if_pos (by omega), hv]
  · by_cases h4 : j < k
    · rw [if_pos h4, if_pos (by omega)]
    · rw [if_neg h4, if_neg (by omega)]
theorem ConvInv.reads {f : UInt8 → UInt8} {s : ByteArray} {g : Nat} {e : TypeId} {w : World} (h : ConvInv f s g e s.size w) (hs : s.size ≤ 9223372036854775807) :
    ReadsInt w .u8 (some ⟨g, 0, none⟩) s.size ((s.data.toList.map f).map fun b => (b.toNat : Int)) := by
  obtain ⟨cs, h1, h2, h3⟩ := h
  refine ⟨by simp, hs, fun _ => ⟨_, rfl, fun j hj => ?_⟩⟩
  rw [add_plain]
  have h' : j < s.data.size := hj
  have := h3 j hj
  rw [if_pos hj] at this
  simp [World.cell?, h1, this, List.getD_eq_getElem?_getD, Array.getElem?_eq_getElem h']
  rfl
theorem strOf_map (l : List UInt8) : strOfNums (l.map fun b => (b.toNat : Int)) = ⟨l.toArray⟩ := by
  unfold strOfNums
  congr 1
  induction l with
  | nil => rfl
  | cons a l ih => simp_all
theorem ba_toList (l : List UInt8) : ByteArray.toList ⟨l.toArray⟩ = l := by
  rw [ByteArray.toList_eq]
theorem ba_extract (l : List UInt8) (a b : Nat) : ByteArray.extract ⟨l.toArray⟩ a b = ⟨((l.take b).drop a).toArray⟩ := by
  apply ByteArray.ext
  apply Array.ext'
  simp [ByteArray.data_extract, List.drop_take]
end Go.Proofs.YtakfdmhoooeejaaDoor.My
