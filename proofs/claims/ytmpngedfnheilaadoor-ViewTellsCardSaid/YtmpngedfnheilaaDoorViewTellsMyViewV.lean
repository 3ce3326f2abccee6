/- YtmpngedfnheilaaDoorMyViewV, as far as ViewTells needs it (prune.py). -/
import Derived.Test.YtmpngedfnheilaaDoorViewTellsMyViewR
import Derived.Test.YtmpngedfnheilaaDoorViewTellsPPx1
import Derived.Test.YtmpngedfnheilaaDoorViewTellsPPx2
namespace Go.Proofs.YtmpngedfnheilaaDoor.PP
open Go.RowKit Go.Proofs.YtmpngedfnheilaaDoorW.PrintWords Go.Proofs.YtmpngedfnheilaaDoorW.PrintLast Go.Proofs.YtmpngedfnheilaaDoorW.PrintMore
open Go.Proofs.YtmpngedfnheilaaDoor.My
set_option linter.unusedVariables false
set_option linter.unusedSimpArgs false
/-- From some number of rounds on the answer is v. -/
def Ev {α : Type} (f : Nat → Option α) (v : α) : Prop := ∃ K, ∀ k, K ≤ k → f k = some v
def Tot {α : Type} (f : Nat → Option α) : Prop := ∃ v, Ev f v
section
variable {α β : Type} {g f : Nat → Option α} {r : α}
theorem Ev.go (h : ∀ k, g (k + 1) = f k) (t : Ev f r) : Ev g r := by
  obtain ⟨K, ht⟩ := t
  refine ⟨K + 1, fun k hk => ?_⟩
  obtain ⟨j, rfl⟩ : ∃ j, k = j + 1 := ⟨k - 1, by omega⟩
  rw [h, ht j (by omega)]
theorem Ev.now (h : ∀ k, g (k + 1) = some r) : Ev g r := Ev.go (f := fun _ => some r) h ⟨0, fun _ _ => rfl⟩
theorem Ev.ret (r : α) : Ev (fun _ => some r) r := ⟨0, fun _ _ => rfl⟩
theorem Ev.at {r : α} (h : Ev f r) : ∃ k, f k = some r := by
  obtain ⟨K, h⟩ := h
  exact ⟨K, h K (Nat.le_refl _)⟩
theorem Tot.go (h : ∀ k, g (k + 1) = f k) (t : Tot f) : Tot g := t.imp fun _ t => Ev.go h t
theorem Tot.now (h : ∀ k, g (k + 1) = some r) : Tot g := ⟨r, Ev.now h⟩
theorem Tot.ret (r : α) : Tot (fun _ => some r) := ⟨r, Ev.ret r⟩
end
theorem w64s {i : Nat} (h : i < 9223372036854775807) : wrap64 ((i : Int) + 1) = ((i + 1 : Nat) : Int) := by unfold wrap64; omega
/-- Texts as a program can have them. -/
def Small (l : List ByteArray) : Prop := l.length ≤ 9223372036854775807 ∧ ∀ f ∈ l, f.size ≤ 9223372036854775807
theorem Small.rd {l : List ByteArray} (h : Small l) (i : Nat) (hi : i < l.length) : (rdOf ByteArray.empty l i).size ≤ 9223372036854775807 := by
  refine h.2 _ ?_
  unfold rdOf
  simp [List.getD_eq_getElem?_getD, List.getElem?_eq_getElem hi]
open Classical in
/-- Flags as they are kept, whatever they are. -/
noncomputable def FL (l : List ByteArray) : List ByteArray := if h : Tot (fun k => search_Flags.f k l) then h.choose else []
end Go.Proofs.YtmpngedfnheilaaDoor.PP
