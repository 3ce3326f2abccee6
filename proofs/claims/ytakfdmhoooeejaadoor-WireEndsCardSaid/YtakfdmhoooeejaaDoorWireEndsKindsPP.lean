/- YtakfdmhoooeejaaDoorKindsPP, as far as WireEnds needs it (prune.py). -/
import Derived.Test.YtakfdmhoooeejaaDoorWireEndsPPx0
import Derived.Test.YtakfdmhoooeejaaDoorWireEndsMyRow
namespace Go.Proofs.YtakfdmhoooeejaaDoor.PP
open Go.ChangeShapes Go.WideShapes Go.RowKit Go.Proofs.YtakfdmhoooeejaaDoor.My Go.Proofs.YtakfdmhoooeejaaDoorW.PrintWords Go.Proofs.YtakfdmhoooeejaaDoorW.PrintLast
set_option linter.unusedVariables false
def Q47 (y : S47) : Prop := (fun z : _ => (z.1.size ≤ maxLen) ∧ ((z.2.1.size ≤ maxLen) ∧ ((Lit.int .i64 z.2.2).wf = true))) ((fun x : S47 => (x.f0, x.f1, x.f2)) y)
theorem opn_k47 : Opn Tryd.prog 47 k47 Q47 := opn_iso (fun x : S47 => (x.f0, x.f1, x.f2)) (fun a => ⟨a.1, a.2.1, a.2.2⟩) (fun _ => rfl) (opn_struct (n := k47.sz) Tryd.underlying47 (by kernel_rfl) (opnF_cons rfl (by kernel_rfl) (opn_string (by kernel_rfl)) (opnF_cons rfl (by kernel_rfl) (opn_string (by kernel_rfl)) (opnF_one rfl (by kernel_rfl) (by kernel_rfl) (opn_int (by kernel_rfl))))))
end Go.Proofs.YtakfdmhoooeejaaDoor.PP
