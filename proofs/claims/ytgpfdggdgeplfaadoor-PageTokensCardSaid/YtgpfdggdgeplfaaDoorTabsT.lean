/- The package variables that strconv reads: what the printed contracts ask of the world. -/
import Derived.Test.YtgpfdggdgeplfaaDoorWWords
import Derived.Test.YtgpfdggdgeplfaaDoorShelf
import Derived.Lib.LaidTab
import Derived.Lib.ItoaNum
namespace Go.Proofs.YtgpfdggdgeplfaaDoor.Q
open Go.RowKit Go.Shelf Go.Proofs.YtgpfdggdgeplfaaDoorW.PrintWords

/-- A cell that holds an error, or none. -/
def ErrAt (w : World) (g : Nat) : Prop := ∃ ev, w.cell? ⟨g, 0, none⟩ = some ev ∧ (ev = .nilIface ∨ ∃ te pe, ev = .iface te pe)
/-- internal/strconv's table of powers; strconv's two errors (whatever they hold). -/
def Tabs (w : World) : Prop := Lib.TabIs Tryd.prog w "internal/strconv.uint64pow10" .u64 Lib.pow10Tab ∧ ErrAt w 0 ∧ ErrAt w 1
theorem ErrAt.below {w W : World} {g : Nat} (h : ErrAt w g) (hb : Below w.heap.size w W) : ErrAt W g := by
  obtain ⟨ev, h1, h2⟩ := h
  exact ⟨ev, pw_cell_below hb h1, h2⟩
theorem var_below {P : Program} {w w' : World} {n : String} {g : Nat} {cs : Array Value} (h : w.var? P n = some cs) (hg : P.globalNamed n = some g) (hb : Below w.heap.size w w') : w'.var? P n = some cs := by
  unfold World.var? at h ⊢
  rw [hg] at h ⊢
  simp only [Option.bind_some] at h ⊢
  by_cases hlt : g < w.heap.size
  · rw [hb.block g hlt]; exact h
  · rw [Array.getElem?_eq_none (by omega)] at h; simp at h
theorem Tabs.below {w W : World} (h : Tabs w) (hb : Below w.heap.size w W) : Tabs W :=
  ⟨var_below (g := 2) h.1 (by kernel_rfl) hb, h.2.1.below hb, h.2.2.below hb⟩
end Go.Proofs.YtgpfdggdgeplfaaDoor.Q
