/- YtakfdmhoooeejaaDoorMyWireK, as far as WirePieces needs it (prune.py). -/
import Derived.Test.YtakfdmhoooeejaaDoorWirePiecesMyWireG
import Derived.Lib.ItoaNum
namespace Go.Proofs.YtakfdmhoooeejaaDoor.PP
open Go.RowKit Go.Proofs.YtakfdmhoooeejaaDoorW.PrintWords Go.Proofs.YtakfdmhoooeejaaDoorW.PrintLast Go.Proofs.YtakfdmhoooeejaaDoorW.PrintMore
open Go.Proofs.YtakfdmhoooeejaaDoor.My
set_option linter.unusedVariables false
set_option linter.unusedSimpArgs false
/-- The mark that a client writes that goes on by itself. -/
def mk (n : Nat) : List UInt8 := 123 :: (Lib.decDigits n ++ [43, 125])
end Go.Proofs.YtakfdmhoooeejaaDoor.PP
