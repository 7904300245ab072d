/- Tabs: a text of this claim's proof, as printed or written, without what the claim does not use. -/
import Derived.Test.YtcklgalgljmljaaDoorWWords
import Derived.Test.YtcklgalgljmljaaDoorShelf
import Derived.Lib.LaidU8
namespace Go.Proofs.YtcklgalgljmljaaDoor.Q
open Go.RowKit Go.Shelf Go.Proofs.YtcklgalgljmljaaDoorW.PrintWords
def Tabs (w : World) : Prop := Lib.Utf8Tabs 0 1 w ∧ ∃ m : Int, w.cell? ⟨2, 0, none⟩ = some (.int .i64 m)
theorem Tabs.below {w W : World} (h : Tabs w) (hb : Below w.heap.size w W) : Tabs W := by
  obtain ⟨⟨h1, h2⟩, m, h3⟩ := h
  exact ⟨⟨fun c hc => pw_cell_below hb (h1 c hc), fun i hi => ⟨pw_cell_below hb (h2 i hi).1, pw_cell_below hb (h2 i hi).2⟩⟩, m, pw_cell_below hb h3⟩
end Go.Proofs.YtcklgalgljmljaaDoor.Q
