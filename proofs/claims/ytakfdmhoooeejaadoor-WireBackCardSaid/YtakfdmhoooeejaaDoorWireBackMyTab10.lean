/- YtakfdmhoooeejaaDoorMyTab10, as far as WireBack needs it (prune.py). -/
import Derived.Test.YtakfdmhoooeejaaDoorRows
import Derived.Lib.LaidTab
import Derived.Lib.LaidU8
import Derived.Lib.ItoaMem
import Derived.PinnedBridge
import Derived.LaidOnce
import Derived.Lib.AppendIntMem
namespace Go.Proofs.YtakfdmhoooeejaaDoor.My
open Go.RowKit Go.Shelf Go.Lib
/-- The table lies. -/
def Tabs (w : World) : Prop := Lib.TabIs Tryd.prog w "internal/strconv.uint64pow10" .u64 Lib.pow10Tab
theorem Tabs.below {w w' : World} (h : Tabs w) (hb : Below w.heap.size w w') : Tabs w' := tabBelow_of_tabIs h w' hb
set_option maxRecDepth 100000 in
theorem tabs_of_laid {W : World} (hL : laidMetH Tryd.prog [("math/bits.deBruijn32tab", Rows.laid_math_bits_deBruijn32tab), ("math/bits.deBruijn64tab", Rows.laid_math_bits_deBruijn64tab), ("internal/strconv.uint64pow10", Rows.laid_internal_strconv_uint64pow10), ("unicode/utf8.acceptRanges", Rows.laid_unicode_utf8_acceptRanges), ("strconv.ErrRange", Rows.laid_strconv_ErrRange), ("strconv.ErrSyntax", Rows.laid_strconv_ErrSyntax), ("unicode/utf8.first", Rows.laid_unicode_utf8_first)] W) : Tabs W := by
  rw [MakeChecks.laidMetH_plain _ _ _ (by kernel_rfl)] at hL
  obtain ⟨g, t, cs, fuel, p, hg, ht, hv, hd⟩ := Lib.laidMet.reads hL (.tail _ (.tail _ (.head _)))
  obtain rfl := Option.some.inj ((show Tryd.prog.globalNamed "internal/strconv.uint64pow10" = some 0 by kernel_rfl).symm.trans hg)
  obtain rfl := Option.some.inj ((show (Tryd.prog.globals[(0 : Nat)]?).map (·.type) = some 85 by kernel_rfl).symm.trans ht)
  unfold Tabs TabIs
  rw [hv, ← cells_of_tab (k := .u64) (zs := Lib.pow10Tab) (n := 20) (e := 76) Tryd.underlying85 Tryd.underlying76 (by kernel_rfl) (by kernel_rfl) hd]
end Go.Proofs.YtakfdmhoooeejaaDoor.My
