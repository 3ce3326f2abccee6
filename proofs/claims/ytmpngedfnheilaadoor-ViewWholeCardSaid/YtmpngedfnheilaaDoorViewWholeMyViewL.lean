/- YtmpngedfnheilaaDoorMyViewL, as far as ViewWhole needs it (prune.py). -/
import Derived.Test.YtmpngedfnheilaaDoorViewWholeMyViewJ
import Derived.Test.YtmpngedfnheilaaDoorViewWholeMyViewK
import Derived.Test.YtmpngedfnheilaaDoorViewWholeMyMapI
namespace Go.Proofs.YtmpngedfnheilaaDoor.PP
open Go.RowKit Go.Proofs.YtmpngedfnheilaaDoorW.PrintWords Go.Proofs.YtmpngedfnheilaaDoorW.PrintLast Go.Proofs.YtmpngedfnheilaaDoorW.PrintMore
open Go.Proofs.YtmpngedfnheilaaDoor.My
set_option linter.unusedVariables false
set_option linter.unusedSimpArgs false
theorem zero_texts (w : World) : (zeroValue 31).run Tryd.prog w = .ok (.slice none 0 0) w := by kernel_rfl
theorem setB_below {N0 : Nat} {w w' : World} (h : Below N0 w w') {b : Nat} (hb : N0 ≤ b) (o : Obj) : Below N0 w (setB w' b o) := ⟨h.os, h.tape, h.output, by rw [setB_size]; exact h.size, fun k hk => (setB_ne w' o (by omega)).trans (h.block k hk)⟩
theorem mapStep (w : World) (mf mt : Nat) (hne : mf ≠ mt) (pf pt : List (Int × Value)) (h1 : MI w mf pf) (h2 : MI w mt pt) (x : Int) (hx : getI pf x = none) (hy : getI pt x = none) (vf : Value) :
    ∃ o1 o2 o3, (Instr.mapEntry 71 (.map (some mf)) (.int .i64 x)).run Tryd.prog w = .ok (.tuple #[.slice none 0 0, .int .i64 (pf.length : Int)]) (setB w mf o1) ∧
      (Instr.entryStore 71 (.map (some mf)) (.int .i64 (pf.length : Int)) vf).run Tryd.prog (setB w mf o1) = .ok () (setB (setB w mf o1) mf o2) ∧
      (Instr.mapUpdate 29 (.map (some mt)) (.int .i64 x) (.bool true)).run Tryd.prog (setB (setB w mf o1) mf o2) = .ok () (setB (setB (setB w mf o1) mf o2) mt o3) ∧
      MI (setB (setB (setB w mf o1) mf o2) mt o3) mf (pf ++ [(x, vf)]) ∧ MI (setB (setB (setB w mf o1) mf o2) mt o3) mt (pt ++ [(x, .bool true)]) := by
  obtain ⟨o1, r1, m1⟩ := h1.entryAll Tryd.underlying71 Tryd.underlying3 zero_texts x hx
  obtain ⟨o2, r2, m2⟩ := (m1 w rfl).storeAll (P := Tryd.prog) (t := 71) vf
  have h2' : MI (setB (setB w mf o1) mf o2) mt pt := h2.keep ((setB_ne _ _ (Ne.symm hne)).trans (setB_ne _ _ (Ne.symm hne)))
  obtain ⟨o3, r3, m3⟩ := h2'.updateAll Tryd.underlying29 Tryd.underlying3 x hy (.bool true)
  exact ⟨o1, o2, o3, r1 w rfl, r2 _ rfl, r3 _ rfl, (m2 _ rfl).keep (setB_ne _ _ hne), m3 _ rfl⟩
end Go.Proofs.YtmpngedfnheilaaDoor.PP
