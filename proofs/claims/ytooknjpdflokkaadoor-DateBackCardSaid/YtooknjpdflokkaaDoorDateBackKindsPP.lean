/- YtooknjpdflokkaaDoorKindsPP, as far as DateBack needs it (prune.py). -/
import Derived.Test.YtooknjpdflokkaaDoorDateBackPPx0
import Derived.Test.YtooknjpdflokkaaDoorDateBackMyRow
namespace Go.Proofs.YtooknjpdflokkaaDoor.PP
open Go.ChangeShapes Go.WideShapes Go.RowKit Go.Proofs.YtooknjpdflokkaaDoor.My Go.Proofs.YtooknjpdflokkaaDoorW.PrintWords Go.Proofs.YtooknjpdflokkaaDoorW.PrintLast
set_option linter.unusedVariables false
def Q24 (y : S24) : Prop := (fun z : _ => ((Lit.int .i64 z.1).wf = true) ∧ (((Lit.int .i64 z.2.1).wf = true) ∧ (((Lit.int .i64 z.2.2.1).wf = true) ∧ (((Lit.int .i64 z.2.2.2.1).wf = true) ∧ (((Lit.int .i64 z.2.2.2.2.1).wf = true) ∧ (((Lit.int .i64 z.2.2.2.2.2.1).wf = true) ∧ ((Lit.int .i64 z.2.2.2.2.2.2).wf = true))))))) ((fun x : S24 => (x.f0, x.f1, x.f2, x.f3, x.f4, x.f5, x.f6)) y)
theorem opn_k24 : Opn Tryd.prog 24 k24 Q24 := opn_iso (fun x : S24 => (x.f0, x.f1, x.f2, x.f3, x.f4, x.f5, x.f6)) (fun a => ⟨a.1, a.2.1, a.2.2.1, a.2.2.2.1, a.2.2.2.2.1, a.2.2.2.2.2.1, a.2.2.2.2.2.2⟩) (fun _ => rfl) (opn_struct (n := k24.sz) Tryd.underlying24 (by kernel_rfl) (opnF_cons rfl (by kernel_rfl) (opn_int (by kernel_rfl)) (opnF_cons rfl (by kernel_rfl) (opn_int (by kernel_rfl)) (opnF_cons rfl (by kernel_rfl) (opn_int (by kernel_rfl)) (opnF_cons rfl (by kernel_rfl) (opn_int (by kernel_rfl)) (opnF_cons rfl (by kernel_rfl) (opn_int (by kernel_rfl)) (opnF_cons rfl (by kernel_rfl) (opn_int (by kernel_rfl)) (opnF_one rfl (by kernel_rfl) (by kernel_rfl) (opn_int (by kernel_rfl))))))))))
end Go.Proofs.YtooknjpdflokkaaDoor.PP
