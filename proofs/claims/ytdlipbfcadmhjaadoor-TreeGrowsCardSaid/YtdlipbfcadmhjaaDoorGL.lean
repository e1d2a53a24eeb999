/- What the program's own tables hold: the world fact that every contract below takes, and what keeps it. -/
import Derived.Test.YtdlipbfcadmhjaaDoorProg
import Derived.Test.YtdlipbfcadmhjaaDoorWWords
import Derived.Lib.LaidTab
import Derived.Shelf.Strconv.Itoa3
import Derived.KernelRfl
import Derived.WalkSmall
namespace Go.Proofs.YtdlipbfcadmhjaaDoor
set_option linter.unusedVariables false
set_option linter.unusedSimpArgs false
open Go.RowKit Go.Proofs.YtdlipbfcadmhjaaDoorW.PrintWords

/-- The library's tables lie in the world as their initialisers lay them (as much of them as is read). -/
structure GL (w : World) : Prop where
  pow : Lib.TabIs Tryd.prog w "internal/strconv.uint64pow10" .u64 Lib.pow10Tab
  db : w.cell? ⟨5, 15, none⟩ = some (.int .u8 4)
theorem GL.below {w w' : World} (h : GL w) (hb : Below w.heap.size w w') : GL w' := by
  refine ⟨?_, (hb.cell (World.block_lt_of_cell? w _ h.db)).trans h.db⟩
  have hg : Tryd.prog.globalNamed "internal/strconv.uint64pow10" = some 0 := by kernel_rfl
  have hv := h.pow
  unfold Lib.TabIs at hv ⊢
  refine var?_below hb hg ?_ hv
  unfold World.var? at hv
  simp only [hg, Option.bind_some] at hv
  by_cases hl : 0 < w.heap.size
  · exact hl
  · rw [Array.getElem?_eq_none (by omega)] at hv
    cases hv
theorem GL.drewN {w : World} (h : GL w) (n : Nat) : GL (w.drewN n) := ⟨h.pow, h.db⟩
end Go.Proofs.YtdlipbfcadmhjaaDoor
