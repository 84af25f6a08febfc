/- Small words on blocks, and on small texts. No condition. -/
import Derived.Test.YtkbfhgcjimfgkaaDoorOpLaw
import Derived.Deep.RegionWith
import Derived.Deep.RegionHeld3
set_option linter.unusedVariables false
set_option linter.unusedSimpArgs false
namespace Go.Proofs.YtkbfhgcjimfgkaaDoor
open Go.RowKit

theorem RdS.of_cells {w : World} {l : Op} {b t : Nat} {A : Nat → Prop} (h : w.heap[b]? = some (.cells (flat l).toArray t (0, 0))) (hp : ∀ p ∈ l, I64 p.kind ∧ I64 p.n ∧ p.text.size ≤ strMax) (hA : A b) (hl : l.length ≤ 1000) :
    RdS A w l (some ⟨b, 0, none⟩) l.length l.length := by
  refine ⟨rfl, Nat.le_refl _, by unfold maxLen; omega, (fun h => by cases h), fun _ => ⟨b, 0, rfl, hA, (Array.getElem?_eq_some_iff.1 h).1, fun i x hx => ⟨partCells x, ⟨rfl, hp x (List.mem_of_getElem? hx)⟩, fun j u hu => ?_⟩⟩⟩
  obtain ⟨h1, h2, h3⟩ := flat_at l i x hx
  rw [cell_of_row w b _ _ t (0, 0) h]
  simp only [Rep.n, Nat.zero_add, List.getElem?_toArray]
  match j, hu with
  | 0, hu => simp [partCells] at hu; rw [← hu]; exact h1
  | 1, hu => simp [partCells] at hu; rw [← hu]; exact h2
  | 2, hu => simp [partCells] at hu; rw [← hu]; exact h3
theorem RdS.nil {α : Type} [Rep α] (A : Nat → Prop) (w : World) : RdS (α := α) A w [] none 0 0 := ⟨rfl, Nat.le_refl _, by unfold maxLen; omega, fun _ => rfl, fun h => absurd h (by omega)⟩
theorem check_nil : check [] = 0 := rfl
theorem valid_x : valid ⟨#[120]⟩ = true := rfl
theorem valid_e : valid ⟨#[]⟩ = true := rfl
theorem valid_ff : valid ⟨#[255]⟩ = false := rfl
theorem rc_x : rc ⟨#[120]⟩ = 1 := rfl
theorem rc_e : rc ⟨#[]⟩ = 0 := rfl
theorem em_e : emptyS ⟨#[]⟩ = true := by rw [emptyS_iff]; rfl
theorem em_x : emptyS ⟨#[120]⟩ = false := by
  cases h : emptyS ⟨#[120]⟩ with
  | false => rfl
  | true => rw [emptyS_iff] at h; exact absurd h (by decide)
theorem abs_w {P : Program} {c : Code} {K : _} {fr : _} {W0 : World} (Q : World → Prop) (hQ : Q W0) (k : ∀ W, Q W → Code.wp P c K fr W) : Code.wp P c K fr W0 := k _ hQ
theorem alloc_sz (w : World) (o : Obj) : (w.alloc o).heap.size = w.heap.size + 1 := by
  show (w.heap.push o).size = _
  rw [Array.size_push]
theorem alloc_at (w : World) (o : Obj) (i : Nat) : (w.alloc o).heap[i]? = if i = w.heap.size then some o else w.heap[i]? := by
  show (w.heap.push o)[i]? = _
  rw [Array.getElem?_push]
end Go.Proofs.YtkbfhgcjimfgkaaDoor
