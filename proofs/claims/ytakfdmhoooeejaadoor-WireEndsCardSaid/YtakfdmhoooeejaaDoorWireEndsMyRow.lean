/- YtakfdmhoooeejaaDoorMyRow, as far as WireEnds needs it (prune.py). -/
import Derived.Test.YtakfdmhoooeejaaDoorRows
import Derived.Test.YtakfdmhoooeejaaDoorWireEndsWWords
import Derived.Test.YtakfdmhoooeejaaDoorWireEndsWLast
import Derived.WalkKit
import Derived.ProofKit
import Derived.OpenShut
import Derived.ChangeOld
import Derived.Below
import Derived.Carry
import Derived.SizedLaws
import Derived.Deep.Slices
namespace Go.Proofs.YtakfdmhoooeejaaDoor.My
open Go.ChangeShapes Go.WideShapes Go.ChangeAt Go.RowKit Go.Deep Go.Proofs.YtakfdmhoooeejaaDoorW.PrintWords Go.Proofs.YtakfdmhoooeejaaDoorW.PrintLast
set_option linter.unusedVariables false
section
variable {P : Program}
/-- What reads as type t is of kind d, with Q. -/
def Opn (P : Program) (t : TypeId) {α : Type} (d : Kd α) (Q : α → Prop) : Prop :=
  ∀ {H : Type} (enc : TypeId × Value → H) (w : World) (fuel : Nat) (cs : List Value) (x : DataW H × List MemPlace), DataW.trod enc P w 0 (fun _ => true) true fuel t cs = some x → ∃ a, d.K w a cs ∧ Q a
theorem opn_int {t : TypeId} {k : IntKind} (ht : P.underlying t = some (.int k)) : Opn P t (Kd.int k) (fun n => (Lit.int k n).wf = true) := by
  intro H enc w fuel cs x h
  obtain ⟨n, rfl, _, hw⟩ := DataW.trod_int ht h
  exact ⟨n, rfl, hw⟩
theorem opn_string {t : TypeId} (ht : P.underlying t = some .string) : Opn P t Kd.string (fun s => s.size ≤ maxLen) := by
  intro H enc w fuel cs x h
  obtain ⟨n, rfl, _, hw⟩ := DataW.trod_string ht h
  exact ⟨n, rfl, hw⟩
theorem list_of {α : Type} {p : Nat → α → Prop} : ∀ (n : Nat), (∀ i, i < n → ∃ a, p i a) → ∃ xs : List α, xs.length = n ∧ ∀ i a, xs[i]? = some a → p i a
  | 0, _ => ⟨[], rfl, fun i a h => by simp at h⟩
  | n + 1, h => by
    obtain ⟨xs, hl, hx⟩ := list_of n (fun i hi => h i (by omega))
    obtain ⟨a, ha⟩ := h n (by omega)
    refine ⟨xs ++ [a], by simp [hl], fun i b hb => ?_⟩
    by_cases hi : i < n
    · rw [List.getElem?_append_left (by omega)] at hb
      exact hx i b hb
    · rw [List.getElem?_append_right (by omega)] at hb
      have : i - xs.length = 0 := by
        rcases Nat.eq_zero_or_pos (i - xs.length) with h0 | h0
        · exact h0
        · rw [List.getElem?_eq_none (by simp; omega)] at hb; cases hb
      rw [this] at hb
      have e : i = n := by omega
      subst e
      simp only [List.getElem?_cons_zero, Option.some.injEq] at hb
      subst hb; exact ha
theorem opn_slice {t e : TypeId} {α : Type} {d : Kd α} {Q : α → Prop} {en : Nat} (ht : P.underlying t = some (.slice e)) (hC : P.cellsOf e = d.sz) (he : Opn P e d Q) :
    Opn P t (Kd.slice en d) (fun xs => xs.length ≤ maxLen ∧ ∀ x ∈ xs, Q x) := by
  intro H enc w fuel cs x h
  rcases open_slice ht h with ⟨rfl, _⟩ | ⟨a, len, cap, m, n, D, Pl, rfl, hb, hl, hm, hmm, hx, hi⟩
  · exact ⟨[], ⟨none, 0, rfl, Nat.le_refl _, rfl, by simp, fun h => by simp at h⟩, by simp, by simp⟩
  · simp only [if_true] at hmm
    have hq : ∀ i, i < len → ∃ b, (∃ cs', w.cells? 0 (a.add (i * P.cellsOf e)) (P.cellsOf e) = some cs' ∧ d.K w b cs') ∧ Q b := by
      intro i hil
      obtain ⟨cs', h1, h2⟩ := hi i (by omega)
      obtain ⟨b, hk, hqb⟩ := he enc w n cs' _ h2
      exact ⟨b, ⟨cs', h1, hk⟩, hqb⟩
    obtain ⟨xs, hxl, hxp⟩ := list_of len hq
    have hml : maxLen ≤ 9223372036854775807 := by decide
    refine ⟨xs, ⟨some a, cap, by rw [hxl], by omega, rfl, by omega, fun _ => ⟨a, rfl, fun j p hj => ?_⟩⟩, by omega, fun y hy => ?_⟩
    · obtain ⟨⟨cs', h1, h2⟩, _⟩ := hxp j p hj
      obtain ⟨_, hcl, hat⟩ := World.cells?_some h1
      refine ⟨cs', by omega, h2, fun i u hu => ?_⟩
      have hil : i < cs'.length := (List.getElem?_eq_some_iff.1 hu).1
      rw [← Go.Deep.add_add, ← hC, hat i (by omega), hu]
    · obtain ⟨j, hj⟩ := List.getElem?_of_mem hy
      exact (hxp j y hj).2
/-- The same of a struct's fields from the cell o on. -/
def OpnF (P : Program) (fs : List Field) (o n : Nat) {α : Type} (d : Kd α) (Q : α → Prop) : Prop :=
  ∀ {H : Type} (enc : TypeId × Value → H) (w : World) (fuel : Nat) (cs : List Value), cs.length = n →
    (∀ f ∈ fs, ∃ x, DataW.trod enc P w 0 (fun _ => true) true fuel f.type ((cs.drop f.offset).take (P.cellsOf f.type)) = some x) → ∃ a, d.K w a (cs.drop o) ∧ Q a
theorem opnF_one {f : Field} {o n : Nat} {α : Type} {d : Kd α} {Q : α → Prop} (ho : f.offset = o) (hC : P.cellsOf f.type = d.sz) (hn : o + d.sz = n) (h : Opn P f.type d Q) : OpnF P [f] o n d Q := by
  intro H enc w fuel cs hl hf
  obtain ⟨x, hx⟩ := hf f (List.mem_singleton.2 rfl)
  obtain ⟨a, hk, hq⟩ := h enc w fuel _ x hx
  refine ⟨a, ?_, hq⟩
  rw [ho, List.take_of_length_le (by simp; omega)] at hk
  exact hk
theorem opnF_cons {f : Field} {fs : List Field} {o n : Nat} {α β : Type} {d : Kd α} {Q : α → Prop} {d' : Kd β} {Q' : β → Prop} (ho : f.offset = o) (hC : P.cellsOf f.type = d.sz) (h : Opn P f.type d Q) (hs : OpnF P fs (o + d.sz) n d' Q') :
    OpnF P (f :: fs) o n (Kd.pair d d') (fun x => Q x.1 ∧ Q' x.2) := by
  intro H enc w fuel cs hl hf
  obtain ⟨x, hx⟩ := hf f List.mem_cons_self
  obtain ⟨a, hk, hq⟩ := h enc w fuel _ x hx
  obtain ⟨b, hk', hq'⟩ := hs enc w fuel cs hl (fun g hg => hf g (List.mem_cons_of_mem _ hg))
  rw [ho, hC] at hk
  refine ⟨(a, b), ⟨_, _, ?_, hk, hk'⟩, hq, hq'⟩
  rw [← List.drop_drop, List.take_append_drop]
theorem opn_struct {t : TypeId} {fs : Array Field} {α : Type} {d : Kd α} {Q : α → Prop} {n : Nat} (ht : P.underlying t = some (.struct fs)) (hn : P.cellsOf t = n) (h : OpnF P fs.toList 0 n d Q) : Opn P t d Q := by
  intro H enc w fuel cs x hx
  obtain ⟨xs, m, _, _, hcl, hlen, hf⟩ := DataW.trod_struct ht hx
  obtain ⟨a, hk, hq⟩ := h enc w m cs (hcl.trans hn) (fun f hm => by
    obtain ⟨i, hi⟩ := List.getElem?_of_mem hm
    have hi' : fs[i]? = some f := by rw [← Array.getElem?_toList]; exact hi
    have := hf i f hi'
    have hil : i < fs.size := (Array.getElem?_eq_some_iff.1 hi').1
    exact ⟨xs[i]'(by omega), this.trans (List.getElem?_eq_getElem (by omega))⟩)
  exact ⟨a, by rw [List.drop_zero] at hk; exact hk, hq⟩
theorem opn_iso {t : TypeId} {α β : Type} {d : Kd α} {Q : α → Prop} (g : β → α) (g' : α → β) (hg : ∀ x, g (g' x) = x) (h : Opn P t d Q) : Opn P t (Kd.iso d g) (fun y => Q (g y)) := by
  intro H enc w fuel cs x hx
  obtain ⟨a, hk, hq⟩ := h enc w fuel cs x hx
  exact ⟨g' a, by show d.K w (g (g' a)) cs; rw [hg]; exact hk, by show Q (g (g' a)); rw [hg]; exact hq⟩
theorem Opn.imp {t : TypeId} {α : Type} {d : Kd α} {Q Q' : α → Prop} (h : Opn P t d Q) (hq : ∀ x, Q x → Q' x) : Opn P t d Q' := by
  intro H enc w fuel cs x hx
  obtain ⟨a, hk, h1⟩ := h enc w fuel cs x hx
  exact ⟨a, hk, hq a h1⟩
/-- A value of a slice's. -/
theorem opn_row {t e : TypeId} {α : Type} {d : Kd α} {Q : α → Prop} (ht : P.underlying t = some (.slice e)) (hC : P.cellsOf e = d.sz) (h : Opn P e d Q) {H : Type} {enc : TypeId × Value → H} {w : World} {r : Reach} {b0 : Nat} {v : Value} {x : DataW H} {ps : List MemPlace}
    (hv : Value.okWide P w r b0 t v) (hd : DataW.Trod enc P w 0 (fun _ => true) true t v x ps) : ∃ A xs c, v = .slice A xs.length c ∧ xs.length ≤ c ∧ d.C w A xs.length xs ∧ xs.length ≤ maxLen ∧ ∀ y ∈ xs, Q y := by
  obtain ⟨fuel, hf⟩ := hd
  obtain ⟨xs, ⟨A, c, he, hl, hr⟩, hm, hq⟩ := opn_slice (en := 0) ht hC h enc w fuel _ _ hf
  refine ⟨A, xs, c, ?_, hl, hr, hm, hq⟩
  simp only [Value.okWide, ht, Cell.okWide, Cell.ok] at hv
  cases v <;> simp_all [Value.cells]
/-- Behind a call that turns nothing old, the arguments read as ahead. -/
theorem trodAll_below {H : Type} {enc : TypeId × Value → H} (hl : laidOutB P = true) {W W' : World} (hb : Below W.heap.size W W') :
    ∀ (ts : List TypeId) (vs : List Value) (ds : List (DataW H)) (ps : List MemPlace), ts.all (fun t => P.readableRec t && decide (t < P.types.size)) = true → DataW.TrodAll enc P W 0 (fun _ => true) true ts vs ds ps → (∀ x ∈ ps, x.block < W.heap.size) →
      DataW.TrodAll enc P W' 0 (fun b => decide (b < W.heap.size)) true ts vs ds ps := by
  intro ts
  induction ts with
  | nil =>
    intro vs ds ps _ h _
    cases vs <;> cases ds <;> first | exact h | exact h.elim
  | cons t ts ih =>
    intro vs ds ps ha h hlt
    cases vs with
    | nil => exact h.elim
    | cons v vs =>
      cases ds with
      | nil => exact h.elim
      | cons d ds =>
        obtain ⟨p, q, h1, h2, rfl⟩ := h
        simp only [List.all_cons, Bool.and_eq_true, decide_eq_true_eq] at ha
        exact ⟨p, q, Below.trod hl ha.1.1 ha.1.2 h1 hb (fun x hx => hlt x (List.mem_append_left _ hx)), ih vs ds q ha.2 h2 (fun x hx => hlt x (List.mem_append_right _ hx)), rfl⟩
end
end Go.Proofs.YtakfdmhoooeejaaDoor.My
