/- YtakfdmhoooeejaaDoorKindsPP, as far as WireBack needs it (prune.py). -/
import Derived.Test.YtakfdmhoooeejaaDoorWireBackPPx0
import Derived.Test.YtakfdmhoooeejaaDoorWireBackMyRow
namespace Go.Proofs.YtakfdmhoooeejaaDoor.PP
open Go.ChangeShapes Go.WideShapes Go.RowKit Go.Proofs.YtakfdmhoooeejaaDoor.My Go.Proofs.YtakfdmhoooeejaaDoorW.PrintWords Go.Proofs.YtakfdmhoooeejaaDoorW.PrintLast
set_option linter.unusedVariables false
def Q47 (y : S47) : Prop := (fun z : _ => (z.1.size ≤ maxLen) ∧ ((z.2.1.size ≤ maxLen) ∧ ((Lit.int .i64 z.2.2).wf = true))) ((fun x : S47 => (x.f0, x.f1, x.f2)) y)
def Q37 (y : S37) : Prop := (fun z : _ => (z.1.length ≤ maxLen ∧ ∀ y3 ∈ z.1, y3.size ≤ maxLen) ∧ (z.2.length ≤ maxLen ∧ ∀ y3 ∈ z.2, y3.size ≤ maxLen)) ((fun x : S37 => (x.f0, x.f1)) y)
theorem opn_k37 : Opn Tryd.prog 37 k37 Q37 := opn_iso (fun x : S37 => (x.f0, x.f1)) (fun a => ⟨a.1, a.2⟩) (fun _ => rfl) (opn_struct (n := k37.sz) Tryd.underlying37 (by kernel_rfl) (opnF_cons rfl (by kernel_rfl) (opn_slice (e := 9) (by kernel_rfl) (by kernel_rfl) (opn_string (by kernel_rfl))) (opnF_one rfl (by kernel_rfl) (by kernel_rfl) (opn_slice (e := 9) (by kernel_rfl) (by kernel_rfl) (opn_string (by kernel_rfl))))))
end Go.Proofs.YtakfdmhoooeejaaDoor.PP
