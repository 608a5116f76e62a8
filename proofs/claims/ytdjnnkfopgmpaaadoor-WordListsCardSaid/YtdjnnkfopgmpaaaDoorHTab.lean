/- What the world must hold for word's functions: the table of powers, and a number in MaxLen. -/
import Derived.Test.YtdjnnkfopgmpaaaDoorHWordPure
import Derived.Test.YtdjnnkfopgmpaaaDoorHShelf
import Derived.Test.YtdjnnkfopgmpaaaDoorProg
import Derived.WalkKit
import Derived.Lib.LaidTab
import Derived.Lib.AppendIntMem
namespace Go.Proofs.YtdjnnkfopgmpaaaDoor.H
open Go Go.RowKit

structure TabW (w : World) : Prop where
  tab : Lib.TabIs Tryd.prog w "internal/strconv.uint64pow10" .u64 Lib.pow10Tab
  len : ∃ m, w.cell? ⟨0, 0, none⟩ = some (.int .i64 m)

theorem TabW.below {w w' : World} (h : TabW w) (hb : Below w.heap.size w w') : TabW w' := by
  refine ⟨?_, ?_⟩
  · have ht := h.tab
    unfold Lib.TabIs World.var? at *
    cases hg : Tryd.prog.globalNamed "internal/strconv.uint64pow10" with
    | none => simp [hg] at ht
    | some g =>
      simp only [hg, Option.bind_some] at ht ⊢
      have hlt : g < w.heap.size := by
        rcases Nat.lt_or_ge g w.heap.size with h' | h'
        · exact h'
        · rw [Array.getElem?_eq_none h'] at ht; simp at ht
      rw [hb.block g hlt]
      exact ht
  · obtain ⟨m, hm⟩ := h.len
    exact ⟨m, (hb.cell (World.block_lt_of_cell? w _ hm)).trans hm⟩

end Go.Proofs.YtdjnnkfopgmpaaaDoor.H
