/-
  A row of runes that the call owns, turned into a text.
-/
import Derived.Laws.Cover4
import Derived.Test.YtnkibbfpmhgeaaaDoorMyRd
namespace Go.Proofs.YtnkibbfpmhgeaaaDoor.My
open Go.RowKit Go.Proofs.YtnkibbfpmhgeaaaDoorW.PrintWords Go.Proofs.YtnkibbfpmhgeaaaDoorW.PrintLast
set_option linter.unusedVariables false
set_option linter.unusedSimpArgs false
theorem own_runes {P : Program} {w : World} {base n : Nat} {e' e src dst : TypeId} {v : Value} {xs : List Int} (hs : P.underlying src = some (.slice e)) (he : P.underlying e = some (.int .i32)) (hd : P.underlying dst = some .string)
    (h : w.ownsRow base e' 1 v n (nums .i32 xs)) : (convert src dst v).run P w = .ok (.string (runesBytes xs)) w := by
  have hl : xs.length = n := by have := h.1; simp [nums] at this; exact this
  rcases h.2 with ⟨rfl, rfl⟩ | ⟨g, cap, cur, rfl, _⟩
  · obtain rfl : xs = [] := List.eq_nil_of_length_eq_zero hl
    exact run_convert_runes_nil w src dst e 0 0 hs he hd
  · have := run_convert_runes w src dst e ⟨g, 0, none⟩ n cap xs (by omega) hs he hd (fun j hj => h.cells (g := g) rfl j _ (by simp [nums, List.getD_eq_getElem?_getD, List.getElem?_eq_getElem hj]))
    rw [List.take_of_length_le (by omega)] at this
    exact this
end Go.Proofs.YtnkibbfpmhgeaaaDoor.My
