/- Arguments that are slices of ints. -/
import Derived.Test.YtkbfhgcjimfgkaaDoorPartC7
set_option linter.unusedVariables false
set_option linter.unusedSimpArgs false
set_option maxRecDepth 100000
namespace Go.Proofs.YtkbfhgcjimfgkaaDoor
open Go.RowKit Go.ChangeShapes Go.WideShapes Go.ChangeAt
section
variable {H : Type} {enc : TypeId × Value → H} {W W' : World}
theorem arg_ints {v : Value} {d : DataW H} {p : List MemPlace} (hv : Value.okWide Tryd.prog W .any 0 22 v) (h : DataW.Trod enc Tryd.prog W 0 (fun _ => true) true 22 v d p) :
    ∃ a n c, ∃ l : List Int, v = .slice a n c ∧ RdS (· < W.heap.size) W l a n c := by
  obtain ⟨a, n, c, rfl⟩ := okWide_slice Tryd.underlying22 hv
  obtain ⟨fuel, hf⟩ := h
  refine ⟨a, n, c, ?_⟩
  rcases open_ints Tryd.underlying22 Tryd.underlying3 (by kernel_rfl) hf with ⟨hcs, _⟩ | ⟨ad, len, cap, zs, hcs, _, hl, hm, hz, hx, hcell, hwz⟩
  · simp [Value.cells] at hcs
    obtain ⟨rfl, rfl, rfl⟩ := hcs
    exact ⟨[], rfl, rfl, by omega, by unfold maxLen; omega, fun _ => rfl, fun h => absurd h (by omega)⟩
  · simp [Value.cells] at hcs
    obtain ⟨rfl, rfl, rfl⟩ := hcs
    simp only [if_true] at hz
    refine ⟨zs.take n, rfl, by simp; omega, hl, hm, (fun h => by cases h), fun hn => ?_⟩
    have h0 := hcell 0 (by omega)
    have hs : ad.spot = none := by
      cases hs : ad.spot with
      | none => rfl
      | some k => unfold World.cell? at h0; simp [Addr.add, hs] at h0; split at h0 <;> cases h0
    have hlt : ad.block < W.heap.size := World.block_lt_of_cell? W (ad.add 0) h0
    obtain ⟨b, off, spot⟩ := ad
    simp only at hs hlt
    subst hs
    refine ⟨b, off, rfl, hlt, hlt, fun i x hi => ?_⟩
    have hi2 : i < n ∧ zs[i]? = some x := by
      rw [List.getElem?_take] at hi
      split at hi
      · exact ⟨by assumption, hi⟩
      · cases hi
    refine ⟨[.int .i64 x], ⟨rfl, ?_⟩, fun j u hu => ?_⟩
    · have := hwz x (List.mem_of_getElem? hi2.2)
      simpa [I64, Lit.wf, IntKind.min, IntKind.max, IntKind.bits, IntKind.signed] using this
    · match j, hu with
      | 0, hu =>
        simp at hu
        have h1 := hcell i (by omega)
        have h2 : zs.getD i 0 = x := by simp [List.getD, hi2.2]
        rw [h2, hu] at h1
        have e : (⟨b, off, none⟩ : Addr).add i = ⟨b, off + i, none⟩ := by
          unfold Addr.add
          split
          · rename_i h0; rw [h0]; rfl
          · rfl
        rw [e] at h1
        simpa [Rep.n] using h1
end
end Go.Proofs.YtkbfhgcjimfgkaaDoor
