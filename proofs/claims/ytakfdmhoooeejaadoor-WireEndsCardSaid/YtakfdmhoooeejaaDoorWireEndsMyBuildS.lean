/- YtakfdmhoooeejaaDoorMyBuildS, as far as WireEnds needs it (prune.py). -/
import Derived.Test.YtakfdmhoooeejaaDoorWireEndsMyShelfWire
import Derived.Test.YtakfdmhoooeejaaDoorWireEndsMyBits
import Derived.IntWalk
import Derived.Lib.FrozenHead2
import Derived.Deep.RegionHeld3
import Derived.Deep.RegionWith
namespace Go.Proofs.YtakfdmhoooeejaaDoor.My
open Go.RowKit Go.Proofs.YtakfdmhoooeejaaDoorW.PrintWords Go.Proofs.YtakfdmhoooeejaaDoorW.PrintLast Go.Proofs.YtakfdmhoooeejaaDoorW.PrintMore
set_option linter.unusedVariables false
set_option linter.unusedSimpArgs false
theorem inf8 : (Tryd.prog.info? 5).map (fun i => (i.zero, i.size, i.bytes)) = some (some (.int .u8 0), 1, 1) := by kernel_rfl
/-- A builder that the call itself has made. -/
abbrev IsB (b : Nat) (l : List UInt8) (w : World) : Prop := Lib.IsBuilderF 57 5 b b (Lib.byteCells l) w
theorem IsB.lt' {b : Nat} {l : List UInt8} {w : World} (h : IsB b l w) : b < w.heap.size := by
  rcases h with ⟨_, v, h, _⟩ | ⟨_, v, h, _⟩ <;> exact (Array.getElem?_eq_some_iff.1 h).1
theorem IsB.later {b : Nat} {l : List UInt8} {w w' : World} (h : IsB b l w) (hb : Below w.heap.size w w') : IsB b l w' := by
  have hlt := h.lt'
  have hk := fun {v : Value} (x : w.ownsRowF b 5 1 v (Lib.byteCells l).length (Lib.byteCells l)) => x.kept (row := none) ⟨hb.os, hb.tape, hb.output, hb.size, fun k hk _ => hb.block k hk⟩ (Classical.em _)
  rcases h with ⟨h1, v, h2, h3, h4⟩ | ⟨h1, v, h2, h3, h4⟩
  · exact .inl ⟨h1, v, (hb.block b hlt).trans h2, hk h3, h4⟩
  · exact .inr ⟨h1, v, (hb.block b hlt).trans h2, hk h3, h4⟩
end Go.Proofs.YtakfdmhoooeejaaDoor.My
