/- YtakfdmhoooeejaaDoorMyWireA, as far as WireEnds needs it (prune.py). -/
import Derived.Test.YtakfdmhoooeejaaDoorWireEndsMyBuildS
import Derived.Test.YtakfdmhoooeejaaDoorWireEndsPPx3
import Derived.Lib.ConvBytes
import Derived.Deep.RegionHeld3
import Derived.Deep.RegionWith
import Derived.Deep.Cut
import Derived.Laws.EntriesVeiled
namespace Go.Proofs.YtakfdmhoooeejaaDoor.PP
open Go.RowKit Go.Proofs.YtakfdmhoooeejaaDoorW.PrintWords Go.Proofs.YtakfdmhoooeejaaDoorW.PrintLast Go.Proofs.YtakfdmhoooeejaaDoorW.PrintMore
open Go.Proofs.YtakfdmhoooeejaaDoor.My
set_option linter.unusedVariables false
set_option linter.unusedSimpArgs false
inductive Md | line | lit | skipLine | skipLit
  deriving DecidableEq
abbrev Evt := S39
def evt (k : Int) (ts ls : List ByteArray) : Evt := ⟨k, ⟨ts, ls⟩⟩
def str (l : List UInt8) : ByteArray := ⟨l.toArray⟩
def nb (l : List UInt8) : List Int := l.map fun b => (b.toNat : Int)
structure FS where
  texts : List ByteArray
  lits : List ByteArray
  line : List UInt8
  size : Int
  md : Md
  left : Int
  skip : Bool
def fs0 : FS := ⟨[], [], [], 0, .line, 0, false⟩
def beginS (s : FS) : FS := ⟨[], [], [], 0, .line, s.left, false⟩
def endedS (s : FS) : FS := if s.left = 0 then { s with lits := s.lits ++ [str s.line], line := [], md := .line } else s
def skippedS (s : FS) : FS := if s.left = 0 then { s with md := .skipLine } else s
def inLitS (s : FS) (c : UInt8) : FS := endedS { s with line := s.line ++ [c], left := s.left - 1 }
def skipLitS (s : FS) (c : UInt8) : FS := skippedS { s with left := s.left - 1 }
def skipLineS (s : FS) (c : UInt8) : FS := if c = 10 then beginS s else s
structure FV where
  t : Value
  l : Value
  b : Value
def fnOf : Md → Nat
  | .line => 25
  | .lit => 38
  | .skipLine => 31
  | .skipLit => 36
def nextV (g : Nat) (m : Md) : Value := .func (.func (fnOf m)) #[.pointer (some ⟨g, 0, none⟩)] #[]
abbrev SRow (w : World) (N0 : Nat) (v : Value) (l : List ByteArray) : Prop := Kd.R Kd.string 9 w N0 (fun _ => True) v l
abbrev BRow (w : World) (N0 : Nat) (v : Value) (l : List UInt8) : Prop := Kd.R (Kd.int .u8) 5 w N0 (fun _ => True) v (nb l)
/-- Rows of nothing. -/
def vnil : FV := ⟨.slice none 0 0, .slice none 0 0, .slice none 0 0⟩
def fcs (g : Nat) (V : FV) (s : FS) : Array Value := #[V.t, V.l, V.b, .int .i64 s.size, nextV g s.md, .int .i64 s.left, .bool s.skip]
def FB (g : Nat) (V : FV) (k : Nat) : Prop := k = g ∨ V.t.ownBlock = some k ∨ V.l.ownBlock = some k ∨ V.b.ownBlock = some k
structure FW (N0 : Nat) (w : World) (g : Nat) (V : FV) (s : FS) : Prop where
  blk : w.heap[g]? = some (.cells (fcs g V s) 52 (0, 0))
  ge : N0 ≤ g
  rt : SRow w N0 V.t s.texts
  rl : SRow w N0 V.l s.lits
  rb : BRow w N0 V.b s.line
  ne : ∀ k, V.t.ownBlock = some k → V.l.ownBlock ≠ some k
theorem sz_alloc {w : World} {o : Obj} : (w.alloc o).heap.size = w.heap.size + 1 := by simp
theorem blk_set {w : World} {g : Nat} {cs : Array Value} {t : TypeId} {f : Nat × Nat} (h : w.heap[g]? = some (.cells cs t f)) (i : Nat) (u : Value) : (w.setCell ⟨g, i, none⟩ u).heap[g]? = some (.cells (cs.setIfInBounds i u) t f) := by
  simp [World.setCell, Array.getElem?_modify, h]
theorem set_ne {w : World} {g k i : Nat} {u : Value} (hk : k ≠ g) : (w.setCell ⟨g, i, none⟩ u).heap[k]? = w.heap[k]? := Below.heap_setCell w ⟨g, i, none⟩ u k hk
section
variable {N0 g : Nat} {w w' : World} {V V' : FV} {s s' : FS}
theorem FW.lt (h : FW N0 w g V s) : g < w.heap.size := (Array.getElem?_eq_some_iff.1 h.blk).1
theorem FW.fb_lt (h : FW N0 w g V s) (k : Nat) (hk : FB g V k) : k < w.heap.size := by
  rcases hk with rfl | hk | hk | hk
  · exact h.lt
  · exact Kd.R_lt h.rt k hk
  · exact Kd.R_lt h.rl k hk
  · exact Kd.R_lt h.rb k hk
theorem FW.fb_ge (h : FW N0 w g V s) (k : Nat) (hk : FB g V k) : N0 ≤ k := by
  rcases hk with rfl | hk | hk | hk
  · exact h.ge
  · exact Kd.R_base h.rt k hk
  · exact Kd.R_base h.rl k hk
  · exact Kd.R_base h.rb k hk
theorem R_same {α : Type} {enc : α → Value} {h1 : ∀ x, (enc x).oneCell' = true} {e base : Nat} {v : Value} {xs : List α} (h : (Kd.scalar enc h1).R e w base (fun _ => True) v xs) (hk : ∀ k, v.ownBlock = some k → w'.heap[k]? = w.heap[k]?) : (Kd.scalar enc h1).R e w' base (fun _ => True) v xs :=
  Kd.R_mono (Kd.R_step (Kd.R_of_own (ok := fun k => v.ownBlock = some k) (Kd.own_of_R h) (fun k hk => hk)) (fun k hk' _ => hk k hk')) (fun _ _ => trivial)
theorem FW.keep (h : FW N0 w g V s) (hk : ∀ k, FB g V k → w'.heap[k]? = w.heap[k]?) : FW N0 w' g V s :=
  ⟨(hk g (.inl rfl)).trans h.blk, h.ge, R_same h.rt (fun k e => hk k (.inr (.inl e))), R_same h.rl (fun k e => hk k (.inr (.inr (.inl e)))), R_same h.rb (fun k e => hk k (.inr (.inr (.inr e)))), h.ne⟩
theorem FW.below (h : FW N0 w g V s) (hb : Below w.heap.size w w') : FW N0 w' g V s := h.keep (fun k hk => hb.block k (h.fb_lt k hk))
theorem FW.ne_tb (h : FW N0 w g V s) (k : Nat) (h1 : V.t.ownBlock = some k) : V.b.ownBlock ≠ some k := fun h2 => by
  obtain ⟨c, hc⟩ := Kd.R_typed h.rt k h1
  obtain ⟨d, hd⟩ := Kd.R_typed h.rb k h2
  rw [hc] at hd
  injection hd with hd
  injection hd with _ hd _
  exact absurd hd (by decide)
theorem FW.ne_lb (h : FW N0 w g V s) (k : Nat) (h1 : V.l.ownBlock = some k) : V.b.ownBlock ≠ some k := fun h2 => by
  obtain ⟨c, hc⟩ := Kd.R_typed h.rl k h1
  obtain ⟨d, hd⟩ := Kd.R_typed h.rb k h2
  rw [hc] at hd
  injection hd with hd
  injection hd with _ hd _
  exact absurd hd (by decide)
theorem FW.g_ne (h : FW N0 w g V s) (k : Nat) (hk : V.t.ownBlock = some k ∨ V.l.ownBlock = some k ∨ V.b.ownBlock = some k) : k ≠ g := by
  rintro rfl
  have hb := h.blk
  rcases hk with hk | hk | hk
  · obtain ⟨c, hc⟩ := Kd.R_typed h.rt k hk
    rw [hc] at hb
    injection hb with hb
    injection hb with _ hb _
    exact absurd hb (by decide)
  · obtain ⟨c, hc⟩ := Kd.R_typed h.rl k hk
    rw [hc] at hb
    injection hb with hb
    injection hb with _ hb _
    exact absurd hb (by decide)
  · obtain ⟨c, hc⟩ := Kd.R_typed h.rb k hk
    rw [hc] at hb
    injection hb with hb
    injection hb with _ hb _
    exact absurd hb (by decide)
/-- The feed's own block is written, its rows are kept or emptied. -/
theorem FW.put (h : FW N0 w g V s) (hk : ∀ k, k ≠ g → w'.heap[k]? = w.heap[k]?) (hb : w'.heap[g]? = some (.cells (fcs g V' s') 52 (0, 0)))
    (ht : (V'.t = V.t ∧ s'.texts = s.texts) ∨ (V'.t = .slice none 0 0 ∧ s'.texts = [])) (hl : (V'.l = V.l ∧ s'.lits = s.lits) ∨ (V'.l = .slice none 0 0 ∧ s'.lits = [])) (hr : (V'.b = V.b ∧ s'.line = s.line) ∨ (V'.b = .slice none 0 0 ∧ s'.line = [])) : FW N0 w' g V' s' := by
  refine ⟨hb, h.ge, ?_, ?_, ?_, ?_⟩
  · rcases ht with ⟨e1, e2⟩ | ⟨e1, e2⟩
    · rw [e1, e2]; exact R_same h.rt (fun k hk' => hk k (h.g_ne k (.inl hk')))
    · rw [e1, e2]; exact Kd.R_nil _ _ _ _ _
  · rcases hl with ⟨e1, e2⟩ | ⟨e1, e2⟩
    · rw [e1, e2]; exact R_same h.rl (fun k hk' => hk k (h.g_ne k (.inr (.inl hk'))))
    · rw [e1, e2]; exact Kd.R_nil _ _ _ _ _
  · rcases hr with ⟨e1, e2⟩ | ⟨e1, e2⟩
    · rw [e1, e2]; exact R_same h.rb (fun k hk' => hk k (h.g_ne k (.inr (.inr hk'))))
    · rw [e1, e2]; exact Kd.R_nil _ _ _ _ _
  · intro k hk1 hk2
    rcases ht with ⟨e1, _⟩ | ⟨e1, _⟩
    · rcases hl with ⟨e3, _⟩ | ⟨e3, _⟩
      · rw [e1] at hk1; rw [e3] at hk2; exact h.ne k hk1 hk2
      · rw [e3] at hk2; simp [Value.ownBlock] at hk2
    · rw [e1] at hk1; simp [Value.ownBlock] at hk1
/-- What a call with the feed turns. -/
structure FX (N0 g : Nat) (w : World) (V : FV) (w' : World) (V' : FV) : Prop where
  bel : Below N0 w w'
  kept : Kept w w' (FB g V)
  own : ∀ k, FB g V' k → FB g V k ∨ w.heap.size ≤ k
theorem FX.refl (N0 g : Nat) (w : World) (V : FV) : FX N0 g w V w V := ⟨Below.refl _ _, Go.Proofs.YtakfdmhoooeejaaDoorW.PrintWords.Kept.refl _ _, fun k hk => .inl hk⟩
theorem FX.trans {w2 : World} {V2 : FV} (h : FX N0 g w V w' V') (k : FX N0 g w' V' w2 V2) : FX N0 g w V w2 V2 :=
  ⟨h.bel.trans k.bel, h.kept.then_ k.kept h.own, fun i hi => (k.own i hi).elim (h.own i) (fun hle => .inr (Nat.le_trans h.kept.1 hle))⟩
theorem FX.below {w2 : World} (h : FX N0 g w V w' V') (hn : N0 ≤ w'.heap.size) (hb : Below w'.heap.size w' w2) : FX N0 g w V w2 V' := ⟨h.bel.trans (hb.mono hn), h.kept.below hb, h.own⟩
/-- A block of the feed's is written. -/
theorem FX.setCell (h : FX N0 g w V w' V') (hf : FW N0 w g V s) {p : Addr} (hp : FB g V p.block) (u : Value) : FX N0 g w V (w'.setCell p u) V' :=
  ⟨h.bel.setCell (hf.fb_ge _ hp) u, h.kept.setCell (.inl hp) u, h.own⟩
theorem FX.set (h : FX N0 g w V w' V') (hf : FW N0 w g V s) (i : Nat) (u : Value) : FX N0 g w V (w'.setCell ⟨g, i, none⟩ u) V' := h.setCell hf (p := ⟨g, i, none⟩) (.inl rfl) u
theorem FX.val {V2 : FV} (h : FX N0 g w V w' V') (ht : V2.t = V'.t ∨ V2.t = .slice none 0 0) (hl : V2.l = V'.l ∨ V2.l = .slice none 0 0) (hb : V2.b = V'.b ∨ V2.b = .slice none 0 0) : FX N0 g w V w' V2 :=
  ⟨h.bel, h.kept, fun k hk => h.own k (by
    rcases hk with hk | hk | hk | hk
    · exact .inl hk
    · rcases ht with e | e
      · rw [e] at hk; exact .inr (.inl hk)
      · rw [e] at hk; simp [Value.ownBlock] at hk
    · rcases hl with e | e
      · rw [e] at hk; exact .inr (.inr (.inl hk))
      · rw [e] at hk; simp [Value.ownBlock] at hk
    · rcases hb with e | e
      · rw [e] at hk; exact .inr (.inr (.inr hk))
      · rw [e] at hk; simp [Value.ownBlock] at hk)⟩
theorem FW.g1T {W w1 : World} (h : FW N0 W g V s) (hg : W.grownBy w1 V.t.ownBlock) : w1.heap[g]? = some (.cells (fcs g V s) 52 (0, 0)) := (hg.block g h.lt (fun e => h.g_ne g (.inl e.symm) rfl)).trans h.blk
theorem FW.appT {W w1 : World} {v1 : Value} {ls : List ByteArray} (h : FW N0 W g V s) (hg : W.grownBy w1 V.t.ownBlock) (hat : v1.ownBlock = V.t.ownBlock ∨ ∃ b, v1.ownBlock = some b ∧ W.heap.size ≤ b) (hr : SRow w1 N0 v1 ls) : FW N0 (w1.setCell ⟨g, 0, none⟩ v1) g ⟨v1, V.l, V.b⟩ { s with texts := ls } :=
  ⟨(blk_set (h.g1T hg) 0 v1), h.ge, R_same hr (fun k hk => set_ne (hat.elim (fun e => h.g_ne k (.inl (e.symm.trans hk))) (fun ⟨b, e, hle⟩ => by have e2 := e.symm.trans hk; injection e2 with e2; have := h.lt; omega))), R_same (R_same h.rl (fun k hk => hg.block k (Kd.R_lt h.rl k hk) (fun e => h.ne k e.symm hk))) (fun k hk => set_ne (h.g_ne k (.inr (.inl hk)))), R_same (R_same h.rb (fun k hk => hg.block k (Kd.R_lt h.rb k hk) (fun e => h.ne_tb k e.symm hk))) (fun k hk => set_ne (h.g_ne k (.inr (.inr hk)))), fun k hk1 hk2 => hat.elim (fun e => h.ne k (e.symm.trans hk1) hk2) (fun ⟨b, e, hle⟩ => by have e2 := e.symm.trans hk1; injection e2 with e2; have := Kd.R_lt h.rl _ hk2; omega)⟩
theorem FX.appT {w0 W w1 : World} {V0 : FV} {v1 : Value} (hx : FX N0 g w0 V0 W V) (h : FW N0 W g V s) (hb : Below N0 w0 w1) (hg : W.grownBy w1 V.t.ownBlock) (hat : v1.ownBlock = V.t.ownBlock ∨ ∃ b, v1.ownBlock = some b ∧ W.heap.size ≤ b) : FX N0 g w0 V0 (w1.setCell ⟨g, 0, none⟩ v1) ⟨v1, V.l, V.b⟩ :=
  ⟨hb.setCell (p := ⟨g, 0, none⟩) h.ge v1, (Kept.of_grown hg hx.kept (fun k e => hx.own k (.inr (.inl e)))).setCell (p := ⟨g, 0, none⟩) (hx.own g (.inl rfl)) v1, fun k hk => by
    rcases hk with hk | hk | hk | hk
    · exact hx.own k (.inl hk)
    · exact hat.elim (fun e2 => by have e := e2.symm.trans hk; exact hx.own k (.inr (.inl e))) (fun ⟨b, e, hle⟩ => by have e2 := e.symm.trans hk; injection e2 with e2; have := hx.kept.1; exact .inr (by omega))
    · have e := hk; exact hx.own k (.inr (.inr (.inl e)))
    · have e := hk; exact hx.own k (.inr (.inr (.inr e)))⟩
theorem FW.g1L {W w1 : World} (h : FW N0 W g V s) (hg : W.grownBy w1 V.l.ownBlock) : w1.heap[g]? = some (.cells (fcs g V s) 52 (0, 0)) := (hg.block g h.lt (fun e => h.g_ne g (.inr (.inl e.symm)) rfl)).trans h.blk
theorem FW.appL {W w1 : World} {v1 : Value} {ls : List ByteArray} (h : FW N0 W g V s) (hg : W.grownBy w1 V.l.ownBlock) (hat : v1.ownBlock = V.l.ownBlock ∨ ∃ b, v1.ownBlock = some b ∧ W.heap.size ≤ b) (hr : SRow w1 N0 v1 ls) : FW N0 (w1.setCell ⟨g, 1, none⟩ v1) g ⟨V.t, v1, V.b⟩ { s with lits := ls } :=
  ⟨(blk_set (h.g1L hg) 1 v1), h.ge, R_same (R_same h.rt (fun k hk => hg.block k (Kd.R_lt h.rt k hk) (fun e => h.ne k hk e.symm))) (fun k hk => set_ne (h.g_ne k (.inl hk))), R_same hr (fun k hk => set_ne (hat.elim (fun e => h.g_ne k (.inr (.inl (e.symm.trans hk)))) (fun ⟨b, e, hle⟩ => by have e2 := e.symm.trans hk; injection e2 with e2; have := h.lt; omega))), R_same (R_same h.rb (fun k hk => hg.block k (Kd.R_lt h.rb k hk) (fun e => h.ne_lb k e.symm hk))) (fun k hk => set_ne (h.g_ne k (.inr (.inr hk)))), fun k hk1 hk2 => hat.elim (fun e => h.ne k hk1 (e.symm.trans hk2)) (fun ⟨b, e, hle⟩ => by have e2 := e.symm.trans hk2; injection e2 with e2; have := Kd.R_lt h.rt _ hk1; omega)⟩
theorem FX.appL {w0 W w1 : World} {V0 : FV} {v1 : Value} (hx : FX N0 g w0 V0 W V) (h : FW N0 W g V s) (hb : Below N0 w0 w1) (hg : W.grownBy w1 V.l.ownBlock) (hat : v1.ownBlock = V.l.ownBlock ∨ ∃ b, v1.ownBlock = some b ∧ W.heap.size ≤ b) : FX N0 g w0 V0 (w1.setCell ⟨g, 1, none⟩ v1) ⟨V.t, v1, V.b⟩ :=
  ⟨hb.setCell (p := ⟨g, 1, none⟩) h.ge v1, (Kept.of_grown hg hx.kept (fun k e => hx.own k (.inr (.inr (.inl e))))).setCell (p := ⟨g, 1, none⟩) (hx.own g (.inl rfl)) v1, fun k hk => by
    rcases hk with hk | hk | hk | hk
    · exact hx.own k (.inl hk)
    · have e := hk; exact hx.own k (.inr (.inl e))
    · exact hat.elim (fun e2 => by have e := e2.symm.trans hk; exact hx.own k (.inr (.inr (.inl e)))) (fun ⟨b, e, hle⟩ => by have e2 := e.symm.trans hk; injection e2 with e2; have := hx.kept.1; exact .inr (by omega))
    · have e := hk; exact hx.own k (.inr (.inr (.inr e)))⟩
theorem FW.g1B {W w1 : World} (h : FW N0 W g V s) (hg : W.grownBy w1 V.b.ownBlock) : w1.heap[g]? = some (.cells (fcs g V s) 52 (0, 0)) := (hg.block g h.lt (fun e => h.g_ne g (.inr (.inr e.symm)) rfl)).trans h.blk
theorem FW.appB {W w1 : World} {v1 : Value} {ls : List UInt8} (h : FW N0 W g V s) (hg : W.grownBy w1 V.b.ownBlock) (hat : v1.ownBlock = V.b.ownBlock ∨ ∃ b, v1.ownBlock = some b ∧ W.heap.size ≤ b) (hr : BRow w1 N0 v1 ls) : FW N0 (w1.setCell ⟨g, 2, none⟩ v1) g ⟨V.t, V.l, v1⟩ { s with line := ls } :=
  ⟨(blk_set (h.g1B hg) 2 v1), h.ge, R_same (R_same h.rt (fun k hk => hg.block k (Kd.R_lt h.rt k hk) (fun e => h.ne_tb k hk e.symm))) (fun k hk => set_ne (h.g_ne k (.inl hk))), R_same (R_same h.rl (fun k hk => hg.block k (Kd.R_lt h.rl k hk) (fun e => h.ne_lb k hk e.symm))) (fun k hk => set_ne (h.g_ne k (.inr (.inl hk)))), R_same hr (fun k hk => set_ne (hat.elim (fun e => h.g_ne k (.inr (.inr (e.symm.trans hk)))) (fun ⟨b, e, hle⟩ => by have e2 := e.symm.trans hk; injection e2 with e2; have := h.lt; omega))), h.ne⟩
theorem FX.appB {w0 W w1 : World} {V0 : FV} {v1 : Value} (hx : FX N0 g w0 V0 W V) (h : FW N0 W g V s) (hb : Below N0 w0 w1) (hg : W.grownBy w1 V.b.ownBlock) (hat : v1.ownBlock = V.b.ownBlock ∨ ∃ b, v1.ownBlock = some b ∧ W.heap.size ≤ b) : FX N0 g w0 V0 (w1.setCell ⟨g, 2, none⟩ v1) ⟨V.t, V.l, v1⟩ :=
  ⟨hb.setCell (p := ⟨g, 2, none⟩) h.ge v1, (Kept.of_grown hg hx.kept (fun k e => hx.own k (.inr (.inr (.inr e))))).setCell (p := ⟨g, 2, none⟩) (hx.own g (.inl rfl)) v1, fun k hk => by
    rcases hk with hk | hk | hk | hk
    · exact hx.own k (.inl hk)
    · have e := hk; exact hx.own k (.inr (.inl e))
    · have e := hk; exact hx.own k (.inr (.inr (.inl e)))
    · exact hat.elim (fun e2 => by have e := e2.symm.trans hk; exact hx.own k (.inr (.inr (.inr e)))) (fun ⟨b, e, hle⟩ => by have e2 := e.symm.trans hk; injection e2 with e2; have := hx.kept.1; exact .inr (by omega))⟩
theorem FW.cell (h : FW N0 w g V s) (i : Nat) : w.cell? ⟨g, i, none⟩ = (fcs g V s)[i]? := by
  rw [cell_of_row w g i _ _ (0, 0) h.blk]
theorem FW.fz (h : FW N0 w g V s) (i : Nat) : w.frozen? ⟨g, i, none⟩ = false := blk_frozen h.blk i
theorem fall (h : w.heap[g]? = some (.cells (fcs g V s) 52 (0, 0))) : (w.cell? ⟨g, 0, none⟩ = some V.t ∧ w.cell? ⟨g, 1, none⟩ = some V.l ∧ w.cell? ⟨g, 2, none⟩ = some V.b ∧ w.cell? ⟨g, 3, none⟩ = some (.int .i64 s.size) ∧ w.cell? ⟨g, 4, none⟩ = some (nextV g s.md) ∧ w.cell? ⟨g, 5, none⟩ = some (.int .i64 s.left) ∧ w.cell? ⟨g, 6, none⟩ = some (.bool s.skip)) ∧
    w.frozen? ⟨g, 0, none⟩ = false ∧ w.frozen? ⟨g, 1, none⟩ = false ∧ w.frozen? ⟨g, 2, none⟩ = false ∧ w.frozen? ⟨g, 3, none⟩ = false ∧ w.frozen? ⟨g, 4, none⟩ = false ∧ w.frozen? ⟨g, 5, none⟩ = false ∧ w.frozen? ⟨g, 6, none⟩ = false :=
  ⟨⟨blk_cell h 0, blk_cell h 1, blk_cell h 2, blk_cell h 3, blk_cell h 4, blk_cell h 5, blk_cell h 6⟩, blk_frozen h 0, blk_frozen h 1, blk_frozen h 2, blk_frozen h 3, blk_frozen h 4, blk_frozen h 5, blk_frozen h 6⟩
theorem FW.all (h : FW N0 w g V s) : (w.cell? ⟨g, 0, none⟩ = some V.t ∧ w.cell? ⟨g, 1, none⟩ = some V.l ∧ w.cell? ⟨g, 2, none⟩ = some V.b ∧ w.cell? ⟨g, 3, none⟩ = some (.int .i64 s.size) ∧ w.cell? ⟨g, 4, none⟩ = some (nextV g s.md) ∧ w.cell? ⟨g, 5, none⟩ = some (.int .i64 s.left) ∧ w.cell? ⟨g, 6, none⟩ = some (.bool s.skip)) ∧
    w.frozen? ⟨g, 0, none⟩ = false ∧ w.frozen? ⟨g, 1, none⟩ = false ∧ w.frozen? ⟨g, 2, none⟩ = false ∧ w.frozen? ⟨g, 3, none⟩ = false ∧ w.frozen? ⟨g, 4, none⟩ = false ∧ w.frozen? ⟨g, 5, none⟩ = false ∧ w.frozen? ⟨g, 6, none⟩ = false := fall h.blk
end
set_option maxHeartbeats 2000000 in
set_option maxRecDepth 100000 in
theorem begin_ok (N0 g : Nat) (w : World) (V : FV) (s : FS) (h : FW N0 w g V s) :
    Calls Tryd.prog 19 #[.pointer (some ⟨g, 0, none⟩)] w fun e w' => e = .returned (.tuple #[]) ∧ FW N0 w' g vnil (beginS s) ∧ FX N0 g w V w' vnil := by
  have HV := Aside0.mk h
  obtain ⟨⟨c0, c1, c2, c3, c4, c5, c6⟩, f0, f1, f2, f3, f4, f5, f6⟩ := h.all
  clear h
  go_enter Tryd.func19, Tryd.ntmps19
  go_upto_region 1 with fail
  have hW1 : FW N0 ((((w.setCell ⟨g, 0, none⟩ (.slice none 0 0)).setCell ⟨g, 1, none⟩ (.slice none 0 0)).setCell ⟨g, 2, none⟩ (.slice none 0 0)).setCell ⟨g, 3, none⟩ (.int .i64 0)) g vnil ⟨[], [], [], 0, s.md, s.left, s.skip⟩ := by
    refine HV.out.put (fun k hk => ?_) ?_ (.inr ⟨rfl, rfl⟩) (.inr ⟨rfl, rfl⟩) (.inr ⟨rfl, rfl⟩)
    · repeat rw [set_ne hk]
    · exact blk_set (blk_set (blk_set (blk_set HV.out.blk 0 _) 1 _) 2 _) 3 _
  have hX1 : FX N0 g w V ((((w.setCell ⟨g, 0, none⟩ (.slice none 0 0)).setCell ⟨g, 1, none⟩ (.slice none 0 0)).setCell ⟨g, 2, none⟩ (.slice none 0 0)).setCell ⟨g, 3, none⟩ (.int .i64 0)) vnil :=
    (((((FX.refl N0 g w V).set HV.out 0 _).set HV.out 1 _).set HV.out 2 _).set HV.out 3 _).val (.inr rfl) (.inr rfl) (.inr rfl)
  have HW1 := Aside0.mk hW1
  have HX1 := Aside0.mk hX1
  clear hW1 hX1 c0 c1 c2 c3 c4 c5 c6 f0 f1 f2 f3 f4 f5 f6
  generalize ((((w.setCell ⟨g, 0, none⟩ (.slice none 0 0)).setCell ⟨g, 1, none⟩ (.slice none 0 0)).setCell ⟨g, 2, none⟩ (.slice none 0 0)).setCell ⟨g, 3, none⟩ (.int .i64 0)) = w1 at HW1 HX1 ⊢
  obtain ⟨⟨_, _, _, _, c4, _, c6⟩, _, _, _, _, f4, _, f6⟩ := HW1.out.all
  go_wp2_with fail
  go_end0
  refine ⟨rfl, ?_, HX1.out.trans (((FX.refl N0 g w1 vnil).set HW1.out 6 _).set HW1.out 4 _)⟩
  refine HW1.out.put (fun k hk => ?_) ?_ (.inl ⟨rfl, rfl⟩) (.inl ⟨rfl, rfl⟩) (.inl ⟨rfl, rfl⟩)
  · repeat rw [set_ne hk]
  · exact blk_set (blk_set HW1.out.blk 6 _) 4 _
end Go.Proofs.YtakfdmhoooeejaaDoor.PP
