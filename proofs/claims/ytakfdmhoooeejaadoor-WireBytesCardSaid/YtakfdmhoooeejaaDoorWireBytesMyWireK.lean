/- YtakfdmhoooeejaaDoorMyWireK, as far as WireBytes needs it (prune.py). -/
import Derived.Test.YtakfdmhoooeejaaDoorWireBytesMyWireG
import Derived.Lib.ItoaNum
namespace Go.Proofs.YtakfdmhoooeejaaDoor.PP
open Go.RowKit Go.Proofs.YtakfdmhoooeejaaDoorW.PrintWords Go.Proofs.YtakfdmhoooeejaaDoorW.PrintLast Go.Proofs.YtakfdmhoooeejaaDoorW.PrintMore
open Go.Proofs.YtakfdmhoooeejaaDoor.My
set_option linter.unusedVariables false
set_option linter.unusedSimpArgs false
theorem decDigits_len : ∀ (k u : Nat), u < 10 ^ (k + 1) → (Lib.decDigits u).length ≤ k + 1
  | 0, u, h => by rw [Lib.decDigits, dif_pos (by simpa using h)]; simp
  | k + 1, u, h => by
    rw [Lib.decDigits]
    split
    · simp
    · have := decDigits_len k (u / 10) (by rw [Nat.pow_succ] at h; omega)
      simp; omega
/-- The mark that a client writes that goes on by itself. -/
def mk (n : Nat) : List UInt8 := 123 :: (Lib.decDigits n ++ [43, 125])
def lbytes (b : ByteArray) : List UInt8 := b.data.toList
/-- The bytes of a command: each text with its mark and literal; then the last text. -/
def rawL : List ByteArray → List ByteArray → List UInt8
  | t :: ts, l :: ls => lbytes t ++ mk l.size ++ [13, 10] ++ lbytes l ++ rawL ts ls
  | t :: _, [] => lbytes t ++ [13, 10]
  | [], _ => []
def szs (ts : List ByteArray) : Nat := (ts.map ByteArray.size).sum
theorem lbytes_len (b : ByteArray) : (lbytes b).length = b.size := rfl
end Go.Proofs.YtakfdmhoooeejaaDoor.PP
