/- YtmpngedfnheilaaDoorMyViewW, as far as ViewPlays needs it (prune.py). -/
import Derived.Test.YtmpngedfnheilaaDoorViewPlaysMyViewZ
import Derived.Deep.Cut
import Derived.Deep.CutRange
import Derived.Deep.CutBlock
namespace Go.Proofs.YtmpngedfnheilaaDoor.My
open Go.RowKit Go.Proofs.YtmpngedfnheilaaDoorW.PrintWords
theorem MI.other {w : World} {b b2 : Nat} {ps : List (Int × Value)} (h : MI w b ps) (hne : b ≠ b2) (o : Obj) : MI (setB w b2 o) b ps := h.keep (setB_ne w o hne)
theorem MI.drewN {w : World} {b : Nat} {ps : List (Int × Value)} (h : MI w b ps) (n : Nat) : MI (w.drewN n) b ps := h
theorem MI.below {w w' : World} {b : Nat} {ps : List (Int × Value)} (h : MI w b ps) (hb : Below w.heap.size w w') : MI w' b ps := h.keep (hb.block b (by obtain ⟨es, h, _⟩ := h; exact (Array.getElem?_eq_some_iff.1 h).1))
end Go.Proofs.YtmpngedfnheilaaDoor.My
namespace Go.Proofs.YtmpngedfnheilaaDoor.PP
open Go.RowKit Go.Proofs.YtmpngedfnheilaaDoorW.PrintWords Go.Proofs.YtmpngedfnheilaaDoorW.PrintLast Go.Proofs.YtmpngedfnheilaaDoorW.PrintMore
open Go.Proofs.YtmpngedfnheilaaDoor.My
set_option linter.unusedVariables false
set_option linter.unusedSimpArgs false
theorem setB_chg (w : World) (b : Nat) (o : Obj) {ps : List (Int × Value)} (hm : MI w b ps) {k : Nat} {c : Array Value} {q : TypeId} {f : Nat × Nat} (hk : w.heap[k]? = some (.cells c q f)) : (setB w b o).heap[k]? = w.heap[k]? := by
  refine setB_ne w o ?_
  rintro rfl
  obtain ⟨es, h, _⟩ := hm
  rw [hk] at h
  cases h
theorem VW.setB {N0 : Nat} {w : World} {g : Nat} {v : Value} {l : List Pl} {top : Int} {b : Nat} {ps : List (Int × Value)} (h : VW N0 w g v l top) (hm : MI w b ps) (o : Obj) : VW N0 (My.setB w b o) g v l top :=
  h.keep (setB_chg w b o hm h.blk) (fun k hk => by obtain ⟨c, hb⟩ := Kd.N_typed h.row k hk; exact setB_chg w b o hm hb) (fun k hk => by obtain ⟨c, hb⟩ := hk; exact setB_chg w b o hm hb)
end Go.Proofs.YtmpngedfnheilaaDoor.PP
