/-
  The two tables of utf8 lie, as the cards' premise tells.
-/
import Derived.Test.YtnkibbfpmhgeaaaDoorRows
import Derived.Test.YtnkibbfpmhgeaaaDoorMyShelfNames
import Derived.Lib.LaidU8T
import Derived.PinnedBridge
import Derived.LaidOnce
namespace Go.Proofs.YtnkibbfpmhgeaaaDoor.My
open Go.RowKit Go.Shelf Go.Lib
set_option maxRecDepth 100000 in
theorem tabs_of_laid {W : World} (hL : laidMetH Tryd.prog [("unicode/utf8.acceptRanges", Rows.laid_unicode_utf8_acceptRanges), ("unicode/utf8.first", Rows.laid_unicode_utf8_first)] W) : Tabs W := by
  rw [MakeChecks.laidMetH_plain _ _ _ (by kernel_rfl)] at hL
  have h := utf8Tabs_of_readsT (P := Tryd.prog) (ρ := Tryd.lays196_ren) (U8Types.of196 Tryd.lays196) ⟨by kernel_rfl, by kernel_rfl, by kernel_rfl, by kernel_rfl, by kernel_rfl, by kernel_rfl, by kernel_rfl⟩ (w := W) (Lib.laidMet.reads hL (.tail _ (.head _))) (Lib.laidMet.reads hL (.head _))
  exact h
end Go.Proofs.YtnkibbfpmhgeaaaDoor.My
