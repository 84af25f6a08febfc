/- Arguments that are slices of bytes. -/
import Derived.Test.YtdbdhpjjndhjiaaDoorArgs
import Derived.Test.YtdbdhpjjndhjiaaDoorCloneB
import Derived.SizedLaws
namespace Go.Proofs.YtdbdhpjjndhjiaaDoor
open Go.RowKit Go.ChangeShapes Go.WideShapes Go.ChangeAt
section
variable {W : World} {H : Type} {enc : TypeId × Value → H}
set_option maxRecDepth 100000 in
theorem arg_bytes {v : Value} {d : DataW H} {p : List MemPlace} (hv : Value.okWide Tryd.prog W .any 0 25 v) (h : DataW.Trod enc Tryd.prog W 0 (fun _ => true) true 25 v d p) :
    ∃ a n c, ∃ l : Bs, v = .slice a n c ∧ RdS (· < W.heap.size) W l a n c ∧ (n = 0 ∨ ∃ els sp : List (DataW H), d = .slice els sp ∧ n ≤ els.length) := by
  obtain ⟨a, n, c, rfl⟩ := okWide_slice Tryd.underlying25 hv
  obtain ⟨fuel, hf⟩ := h
  refine ⟨a, n, c, ?_⟩
  rcases open_ints Tryd.underlying25 Tryd.underlying5 (by kernel_rfl) hf with ⟨hcs, _⟩ | ⟨ad, len, cap, zs, hcs, _, hl, hm, hz, hx, hcell, hwz⟩
  · simp [Value.cells] at hcs
    obtain ⟨rfl, rfl, rfl⟩ := hcs
    exact ⟨[], rfl, ⟨rfl, by omega, by unfold maxLen; omega, fun _ => rfl, fun h => absurd h (by omega)⟩, .inl rfl⟩
  · simp [Value.cells] at hcs
    obtain ⟨rfl, rfl, rfl⟩ := hcs
    simp only [if_true] at hz
    simp only [Prod.mk.injEq] at hx
    refine ⟨(zs.take n).map fun z => UInt8.ofNat z.toNat, rfl, ⟨by simp; omega, hl, hm, (fun h => by cases h), fun hn => ?_⟩, .inr ⟨_, _, hx.1, by simp [lits]; omega⟩⟩
    have h0 := hcell 0 (by omega)
    have hs : ad.spot = none := by
      cases hs : ad.spot with
      | none => rfl
      | some k => unfold World.cell? at h0; simp [Addr.add, hs] at h0; split at h0 <;> cases h0
    have hlt : ad.block < W.heap.size := World.block_lt_of_cell? W (ad.add 0) h0
    obtain ⟨b, off, spot⟩ := ad
    simp only at hs hlt
    subst hs
    refine ⟨b, off, rfl, hlt, hlt, fun i x hi => ?_⟩
    rw [List.getElem?_map] at hi
    have hin : i < n := by
      rcases Nat.lt_or_ge i n with h | h
      · exact h
      · rw [List.getElem?_eq_none (by rw [List.length_take]; omega)] at hi; cases hi
    have hiz : i < zs.length := by omega
    rw [List.getElem?_take_of_lt hin, List.getElem?_eq_getElem hiz] at hi
    simp only [Option.map_some, Option.some.injEq] at hi
    subst hi
    have hwf := hwz zs[i] (List.getElem_mem hiz)
    have hb : 0 ≤ zs[i] ∧ zs[i] ≤ 255 := by simpa [Lit.wf, IntKind.min, IntKind.max, IntKind.bits, IntKind.signed] using hwf
    refine ⟨_, rfl, fun j u hu => ?_⟩
    cases j with
    | succ j => simp at hu
    | zero =>
      simp at hu
      subst hu
      have hc := hcell i hiz
      have e : (⟨b, off, none⟩ : Addr).add i = ⟨b, off + i, none⟩ := by
        unfold Addr.add
        split
        · rename_i h0; rw [h0, Nat.add_zero]
        · simp
      rw [e] at hc
      show W.cell? ⟨b, off + i * 1 + 0, none⟩ = _
      rw [show off + i * 1 + 0 = off + i from by omega, hc]
      simp [List.getD, hiz]
      omega
set_option maxRecDepth 100000 in
theorem arg_byte {v : Value} {d : DataW H} {p : List MemPlace} (hv : Value.okWide Tryd.prog W .any 0 5 v) (h : DataW.Trod enc Tryd.prog W 0 (fun _ => true) true 5 v d p) : ∃ x : UInt8, v = .int .u8 (x.toNat : Int) := by
  obtain ⟨x, rfl, _, _, wx⟩ := open_int Tryd.underlying5 hv h
  have hb : 0 ≤ x ∧ x ≤ 255 := by simpa [Lit.wf, IntKind.min, IntKind.max, IntKind.bits, IntKind.signed] using wx
  refine ⟨UInt8.ofNat x.toNat, ?_⟩
  congr 1
  simp
  omega
end
theorem bytes_u8 : Tryd.prog.bytesOf 5 = 1 := by kernel_rfl
set_option maxRecDepth 100000 in
theorem bytes_bound {H : Type} {ts : List TypeId} {ds : List (DataW H)} (h : (DataW.weightsEach Tryd.prog ts ds).all (· ≤ reachBytes) = true) {j n : Nat} {d : DataW H} (ht : ts[j]? = some 25) (hd : ds[j]? = some d) (hn : n = 0 ∨ ∃ els sp : List (DataW H), d = .slice els sp ∧ n ≤ els.length) : n ≤ 140737488351232 := by
  rcases hn with rfl | ⟨els, sp, rfl, hle⟩
  · omega
  · have := sized_slice h (e := 5) ht hd Tryd.underlying25
    rw [bytes_u8] at this
    simp only [reachBytes] at this
    omega
end Go.Proofs.YtdbdhpjjndhjiaaDoor
