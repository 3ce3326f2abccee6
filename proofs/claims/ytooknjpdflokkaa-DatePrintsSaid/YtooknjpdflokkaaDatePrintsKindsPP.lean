/- YtooknjpdflokkaaKindsPP, as far as DatePrints needs it (prune.py). -/
import Derived.Test.YtooknjpdflokkaaDatePrintsPPx0
import Derived.Test.YtooknjpdflokkaaDatePrintsMyRow
namespace Go.Proofs.Ytooknjpdflokkaa.PP
open Go.ChangeShapes Go.WideShapes Go.RowKit Go.Proofs.Ytooknjpdflokkaa.My Go.Proofs.YtooknjpdflokkaaW.PrintWords Go.Proofs.YtooknjpdflokkaaW.PrintLast
set_option linter.unusedVariables false
def Q23 (y : S23) : Prop := (fun z : _ => ((Lit.int .i64 z.1).wf = true) ∧ (((Lit.int .i64 z.2.1).wf = true) ∧ (((Lit.int .i64 z.2.2.1).wf = true) ∧ (((Lit.int .i64 z.2.2.2.1).wf = true) ∧ (((Lit.int .i64 z.2.2.2.2.1).wf = true) ∧ (((Lit.int .i64 z.2.2.2.2.2.1).wf = true) ∧ ((Lit.int .i64 z.2.2.2.2.2.2).wf = true))))))) ((fun x : S23 => (x.f0, x.f1, x.f2, x.f3, x.f4, x.f5, x.f6)) y)
theorem opn_k23 : Opn Try.prog 23 k23 Q23 := opn_iso (fun x : S23 => (x.f0, x.f1, x.f2, x.f3, x.f4, x.f5, x.f6)) (fun a => ⟨a.1, a.2.1, a.2.2.1, a.2.2.2.1, a.2.2.2.2.1, a.2.2.2.2.2.1, a.2.2.2.2.2.2⟩) (fun _ => rfl) (opn_struct (n := k23.sz) Try.underlying23 (by kernel_rfl) (opnF_cons rfl (by kernel_rfl) (opn_int (by kernel_rfl)) (opnF_cons rfl (by kernel_rfl) (opn_int (by kernel_rfl)) (opnF_cons rfl (by kernel_rfl) (opn_int (by kernel_rfl)) (opnF_cons rfl (by kernel_rfl) (opn_int (by kernel_rfl)) (opnF_cons rfl (by kernel_rfl) (opn_int (by kernel_rfl)) (opnF_cons rfl (by kernel_rfl) (opn_int (by kernel_rfl)) (opnF_one rfl (by kernel_rfl) (by kernel_rfl) (opn_int (by kernel_rfl))))))))))
end Go.Proofs.Ytooknjpdflokkaa.PP
