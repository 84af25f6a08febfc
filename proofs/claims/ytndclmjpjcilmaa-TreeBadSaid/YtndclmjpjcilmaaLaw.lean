/- From a walk of a law to its row: arguments are opened, and shut again. -/
import Derived.Test.YtndclmjpjcilmaaRows
import Derived.Test.YtndclmjpjcilmaaBase
import Derived.ProofKit
import Derived.OpenShut
namespace Go.Proofs.Ytndclmjpjcilmaa
open Go.RowKit Go.ChangeShapes Go.WideShapes Go.ChangeAt
open Go.ChangeMaps (open_string)

theorem laidOut : laidOutB Try.prog = true := by kernel_rfl
theorem own : ownKnob Try.prog.godebug = none := by kernel_rfl

section
variable {H : Type} {enc : TypeId × Value → H} {W W' : World}

theorem all_below : ∀ {ts : List TypeId} {vs : List Value} {ds : List (DataW H)} {ps : List MemPlace}, (∀ t ∈ ts, Try.prog.readableRec t = true ∧ t < Try.prog.types.size) →
    DataW.TrodAll enc Try.prog W 0 (fun _ => true) true ts vs ds ps → (∀ x ∈ ps, x.block < W.heap.size) → Below W.heap.size W W' →
    DataW.TrodAll enc Try.prog W' 0 (fun b => decide (b < W.heap.size)) true ts vs ds ps
  | [], vs, ds, ps, _, h, _, _ => by
    obtain ⟨rfl, rfl, rfl⟩ := trodAll_nil h
    exact rfl
  | t :: ts, vs, ds, ps, hr, h, hp, hb => by
    obtain ⟨v, vs', d, ds', p, q, rfl, rfl, rfl, h1, h2⟩ := trodAll_cons h
    refine ⟨p, q, ?_, all_below (fun t ht => hr t (by simp [ht])) h2 (fun x hx => hp x (by simp [hx])) hb, rfl⟩
    exact Below.trod laidOut (hr t (by simp)).1 (hr t (by simp)).2 h1 hb (fun x hx => hp x (by simp [hx]))

/-- A law that returned true and left what was there as it was. -/
theorem law_post {f : Func} {s : ChangeSpec} {args : Array Value} {ds gs : List (DataW H)} {before : List MemPlace} (hr : ∀ t ∈ f.params.toList, Try.prog.readableRec t = true ∧ t < Try.prog.types.size)
    (hv : s.vars = []) (hrt : f.resultTypes = #[4]) (hs : ∀ xs, xs = ds → (s.fn H xs).results = [.lit (.bool true)] ∧ (s.fn H xs).args = xs ∧ (s.fn H xs).vars = [])
    (hW : DataW.Whole enc Try.prog f.params.toList s.vars false W args.toList ds gs before) (hb : Below W.heap.size W W') :
    s.post enc Try.prog f false true false false W args (.bool true) W' := by
  have hlt : ∀ p ∈ before, p.block < W.heap.size := fun p hp => hW.lt p hp
  have hW' := hW
  obtain ⟨p, q, hA, hV, rfl, hz, hn⟩ := hW
  rw [hv] at hV
  obtain ⟨rfl, rfl⟩ := trodVars_none hV
  obtain ⟨e1, e2, e3⟩ := hs (ds ++ []) (by simp)
  refine ⟨ds, [], _, [], p, [], hW', ?_, ?_, ?_, hb.frame _, fun h => by cases h⟩
  · rw [hrt, e1]
    exact ⟨[], [], shut_bool Try.underlying4 true, rfl, rfl⟩
  · rw [e2, List.append_nil]
    exact all_below hr hA (fun x hx => hlt x (by simp [hx])) hb
  · rw [hv, e3]
    exact rfl

theorem arg_int {v : Value} {d : DataW H} {p : List MemPlace} (hv : Value.okWide Try.prog W .any 0 3 v) (h : DataW.Trod enc Try.prog W 0 (fun _ => true) true 3 v d p) : ∃ x, v = .int .i64 x ∧ I64 x := by
  obtain ⟨x, rfl, _, _, wx⟩ := open_int Try.underlying3 hv h
  refine ⟨x, rfl, ?_⟩
  simpa [I64, Lit.wf, IntKind.min, IntKind.max, IntKind.bits, IntKind.signed] using wx

theorem arg_ints {v : Value} {d : DataW H} {p : List MemPlace} (hv : Value.okWide Try.prog W .any 0 22 v) (h : DataW.Trod enc Try.prog W 0 (fun _ => true) true 22 v d p) :
    ∃ a n c, ∃ l : List Int, v = .slice a n c ∧ RdS (· < W.heap.size) W l a n c := by
  obtain ⟨a, n, c, rfl⟩ := okWide_slice Try.underlying22 hv
  obtain ⟨fuel, hf⟩ := h
  refine ⟨a, n, c, ?_⟩
  rcases open_ints Try.underlying22 Try.underlying3 (by kernel_rfl) hf with ⟨hcs, _⟩ | ⟨ad, len, cap, zs, hcs, _, hl, hm, hz, hx, hcell, hwz⟩
  · simp [Value.cells] at hcs
    obtain ⟨rfl, rfl, rfl⟩ := hcs
    exact ⟨[], rfl, rfl, by omega, by unfold maxLen; omega, fun _ => rfl, fun h => absurd h (by omega)⟩
  · simp [Value.cells] at hcs
    obtain ⟨rfl, rfl, rfl⟩ := hcs
    simp only [if_true] at hz
    refine ⟨zs.take n, rfl, by simp; omega, hl, hm, (fun h => by cases h), fun hn => ?_⟩
    have h0 := hcell 0 (by omega)
    have hs : ad.spot = none := by
      cases hs : ad.spot with
      | none => rfl
      | some k => unfold World.cell? at h0; simp [Addr.add, hs] at h0; split at h0 <;> cases h0
    have hlt : ad.block < W.heap.size := World.block_lt_of_cell? W (ad.add 0) h0
    obtain ⟨b, off, spot⟩ := ad
    simp only at hs hlt
    subst hs
    refine ⟨b, off, rfl, hlt, hlt, fun i x hi => ?_⟩
    have hi2 : i < n ∧ zs[i]? = some x := by
      rw [List.getElem?_take] at hi
      split at hi
      · exact ⟨by assumption, hi⟩
      · cases hi
    refine ⟨[.int .i64 x], ⟨rfl, ?_⟩, fun j u hu => ?_⟩
    · have := hwz x (List.mem_of_getElem? hi2.2)
      simpa [I64, Lit.wf, IntKind.min, IntKind.max, IntKind.bits, IntKind.signed] using this
    · match j, hu with
      | 0, hu =>
        simp at hu
        have h1 := hcell i (by omega)
        have h2 : zs.getD i 0 = x := by simp [List.getD, hi2.2]
        rw [h2, hu] at h1
        have e : (⟨b, off, none⟩ : Addr).add i = ⟨b, off + i, none⟩ := by
          unfold Addr.add
          split
          · rename_i h0; rw [h0]; rfl
          · rfl
        rw [e] at h1
        simpa [Rep.n] using h1
end
end Go.Proofs.Ytndclmjpjcilmaa
