/- YtmpngedfnheilaaDoorKindsPP, as far as ViewTells needs it (prune.py). -/
import Derived.Test.YtmpngedfnheilaaDoorViewTellsPPx0
import Derived.Test.YtmpngedfnheilaaDoorViewTellsMyRow
namespace Go.Proofs.YtmpngedfnheilaaDoor.PP
open Go.ChangeShapes Go.WideShapes Go.RowKit Go.Proofs.YtmpngedfnheilaaDoor.My Go.Proofs.YtmpngedfnheilaaDoorW.PrintWords Go.Proofs.YtmpngedfnheilaaDoorW.PrintLast
set_option linter.unusedVariables false
def Q65 (y : S65) : Prop := (fun z : _ => ((Lit.int .i64 z.1).wf = true) ∧ (((Lit.int .i64 z.2.1).wf = true) ∧ (z.2.2.length ≤ maxLen ∧ ∀ y5 ∈ z.2.2, y5.size ≤ maxLen))) ((fun x : S65 => (x.f0, x.f1, x.f2)) y)
theorem opn_k65 : Opn Tryd.prog 65 k65 Q65 := opn_iso (fun x : S65 => (x.f0, x.f1, x.f2)) (fun a => ⟨a.1, a.2.1, a.2.2⟩) (fun _ => rfl) (opn_struct (n := k65.sz) Tryd.underlying65 (by kernel_rfl) (opnF_cons rfl (by kernel_rfl) (opn_int (by kernel_rfl)) (opnF_cons rfl (by kernel_rfl) (opn_int (by kernel_rfl)) (opnF_one rfl (by kernel_rfl) (by kernel_rfl) (opn_slice (e := 9) (by kernel_rfl) (by kernel_rfl) (opn_string (by kernel_rfl)))))))
end Go.Proofs.YtmpngedfnheilaaDoor.PP
