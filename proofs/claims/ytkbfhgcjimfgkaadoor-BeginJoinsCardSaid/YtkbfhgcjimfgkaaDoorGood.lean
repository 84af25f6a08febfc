/- What the walks ask of the world: the tables of package unicode/utf8 lie there. -/
import Derived.Test.YtkbfhgcjimfgkaaDoorBase
import Derived.Shelf.Unicode.DecodeSlow
set_option linter.unusedVariables false
set_option linter.unusedSimpArgs false
namespace Go.Proofs.YtkbfhgcjimfgkaaDoor
open Go.RowKit
/-- the tables of package unicode/utf8 lie in the world -/
structure Good (w : World) : Prop where
  size : 2 ≤ w.heap.size
  tabs : Lib.Utf8Tabs 0 1 w
theorem Good.keep {w w' : World} (h : Good w) (hs : w.heap.size ≤ w'.heap.size) (hk : ∀ b, b < 2 → w'.heap[b]? = w.heap[b]?) : Good w' := by
  have h2 := h.size
  refine ⟨by omega, fun c hc => (cell_keep (hk _ (by decide))).trans (h.tabs.1 c hc), fun i hi => ⟨(cell_keep (hk _ (by decide))).trans (h.tabs.2 i hi).1, (cell_keep (hk _ (by decide))).trans (h.tabs.2 i hi).2⟩⟩
theorem Good.below {w w' : World} {B : Nat} (h : Good w) (hb : Below B w w') (hB : 2 ≤ B) : Good w' := h.keep hb.size fun b hb2 => hb.block b (by omega)
theorem Good.below' {w w' : World} (h : Good w) (hb : Below w.heap.size w w') : Good w' := h.below hb h.size
end Go.Proofs.YtkbfhgcjimfgkaaDoor
