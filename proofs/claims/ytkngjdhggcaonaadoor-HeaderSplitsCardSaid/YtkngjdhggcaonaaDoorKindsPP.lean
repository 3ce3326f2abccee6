/-
  How each of the printer's kinds is opened; the laws' pure statements. Printed by row2.py.
-/
import Derived.Test.YtkngjdhggcaonaaDoorPPx0
import Derived.Test.YtkngjdhggcaonaaDoorMyRow
namespace Go.Proofs.YtkngjdhggcaonaaDoor.PP
open Go.ChangeShapes Go.WideShapes Go.RowKit Go.Proofs.YtkngjdhggcaonaaDoor.My Go.Proofs.YtkngjdhggcaonaaDoorW.PrintWords Go.Proofs.YtkngjdhggcaonaaDoorW.PrintLast
set_option linter.unusedVariables false
def Q37 (y : S37) : Prop := (fun z : _ => (z.1.size ≤ maxLen) ∧ (z.2.size ≤ maxLen)) ((fun x : S37 => (x.f0, x.f1)) y)
theorem opn_k37 : Opn Tryd.prog 37 k37 Q37 := opn_iso (fun x : S37 => (x.f0, x.f1)) (fun a => ⟨a.1, a.2⟩) (fun _ => rfl) (opn_struct (n := k37.sz) Tryd.underlying37 (by kernel_rfl) (opnF_cons rfl (by kernel_rfl) (opn_string (by kernel_rfl)) (opnF_one rfl (by kernel_rfl) (by kernel_rfl) (opn_string (by kernel_rfl)))))
end Go.Proofs.YtkngjdhggcaonaaDoor.PP
