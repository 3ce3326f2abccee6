/- YtooknjpdflokkaaDoorMyShelfTrim, as far as DateMails needs it (prune.py). -/
import Derived.Test.YtooknjpdflokkaaDoorProg
import Derived.WalkKit
import Derived.Ground.NamesProg
import Derived.Shelf.Lay
import Derived.Shelf.Strings.SlTrimAscii
namespace Go.Proofs
open Go.Shelf
shelf_lay Lays.n161 Nm 161 at Tryd as Tryd.lays161
end Go.Proofs
namespace Go.Proofs.YtooknjpdflokkaaDoor.My
open Go.RowKit Go.Shelf Go.Lib
theorem trimLeft_any (s cut : ByteArray) (w : World) (hcs : cut.size < 4294967281) (hascii : ∀ (j : Nat) b, cut.data.toList[j]? = some b → b.toNat < 128) :
    Calls Tryd.prog 48 #[.string s, .string cut] w fun e w' => e = .returned (.string ⟨(Lib.trimLeftS s.data.toList cut.data.toList).toArray⟩) ∧ Below w.heap.size w w' :=
  Any.strings_TrimLeft_laid Tryd.lays161 (by kernel_rfl) s cut w hcs hascii
end Go.Proofs.YtooknjpdflokkaaDoor.My
