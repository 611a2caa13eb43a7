/- What the library's tables hold: 'Glob'. -/
import Derived.Test.YtpiifdbicibelaaDoorMine
import Derived.Shelf.Unicode.ValidAny
namespace Go.Proofs.YtpiifdbicibelaaDoorW.PrintWords
open Go.RowKit
/-! ### the library's tables -/
def Glob (w : World) : Prop := Lib.Utf8Tabs 1 2 w ∧ ∃ m, w.cell? ⟨3, 0, none⟩ = some (.int .i64 m)
theorem Glob.below {w w' : World} (h : Glob w) (hb : Below w.heap.size w w') : Glob w' := by
  obtain ⟨h1, m, h2⟩ := h
  exact ⟨Go.Proofs.Utf8Tabs_below h1 hb, m, pw_cell_below hb h2⟩
end Go.Proofs.YtpiifdbicibelaaDoorW.PrintWords
