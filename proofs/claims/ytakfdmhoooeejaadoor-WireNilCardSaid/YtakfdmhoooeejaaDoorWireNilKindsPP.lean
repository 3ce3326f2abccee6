/- YtakfdmhoooeejaaDoorKindsPP, as far as WireNil needs it (prune.py). -/
import Derived.Test.YtakfdmhoooeejaaDoorWireNilPPx0
import Derived.Test.YtakfdmhoooeejaaDoorWireNilMyRow
namespace Go.Proofs.YtakfdmhoooeejaaDoor.PP
open Go.ChangeShapes Go.WideShapes Go.RowKit Go.Proofs.YtakfdmhoooeejaaDoor.My Go.Proofs.YtakfdmhoooeejaaDoorW.PrintWords Go.Proofs.YtakfdmhoooeejaaDoorW.PrintLast
set_option linter.unusedVariables false
end Go.Proofs.YtakfdmhoooeejaaDoor.PP
