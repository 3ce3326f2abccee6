/- YtooknjpdflokkaaDoorWGuard, as far as DateBack needs it (prune.py). -/
import Derived.Test.YtooknjpdflokkaaDoorDateBackWWords
namespace Go.Proofs.YtooknjpdflokkaaDoorW.PrintWords
open Go.RowKit
section
variable {P : Program} {ops : Array Oper} {rest : List Oper} {o : Oper} {a : Act} {Q : Exit → Act → World → Prop} {W : World}
end
end Go.Proofs.YtooknjpdflokkaaDoorW.PrintWords
