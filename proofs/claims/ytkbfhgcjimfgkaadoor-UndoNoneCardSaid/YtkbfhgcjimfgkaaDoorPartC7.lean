/- The arguments of laws opened: strings, bools, raw things; and the tables of package unicode/utf8 off the row's list. (open_slice_fields, open_agg5: lines of the guide's, to be copied by its word.) -/
import Derived.Test.YtkbfhgcjimfgkaaDoorRows
import Derived.Test.YtkbfhgcjimfgkaaDoorPartA0
import Derived.ProofKit
import Derived.OpenShut
import Derived.Test.YtkbfhgcjimfgkaaDoorPartA4
import Derived.Test.YtkbfhgcjimfgkaaDoorShelf
import Derived.Deep.Slices
import Derived.Deep.Fields
import Derived.ChangeSame
import Derived.Lib.SmallJoins
import Derived.Lib.LaidIn
import Derived.Lib.LaidU8T
import Derived.PinnedBridge
import Derived.Deep.DeepHandedRow
import Derived.Deep.DeepWitnessRowRef
import Derived.SizedLaws
set_option linter.unusedVariables false
set_option linter.unusedSimpArgs false
set_option maxRecDepth 100000
namespace Go.Proofs.YtkbfhgcjimfgkaaDoor
open Go.RowKit Go.ChangeShapes Go.WideShapes Go.ChangeAt
open Go.ChangeMaps (open_string)
theorem laidOut : laidOutB Tryd.prog = true := by kernel_rfl
theorem own : ownKnob Tryd.prog.godebug = none := by kernel_rfl
section
variable {H : Type} {enc : TypeId × Value → H} {W W' : World}
theorem all_below : ∀ {ts : List TypeId} {vs : List Value} {ds : List (DataW H)} {ps : List MemPlace}, (∀ t ∈ ts, Tryd.prog.readableRec t = true ∧ t < Tryd.prog.types.size) →
    DataW.TrodAll enc Tryd.prog W 0 (fun _ => true) true ts vs ds ps → (∀ x ∈ ps, x.block < W.heap.size) → Below W.heap.size W W' →
    DataW.TrodAll enc Tryd.prog W' 0 (fun b => decide (b < W.heap.size)) true ts vs ds ps
  | [], vs, ds, ps, _, h, _, _ => by
    obtain ⟨rfl, rfl, rfl⟩ := trodAll_nil h
    exact rfl
  | t :: ts, vs, ds, ps, hr, h, hp, hb => by
    obtain ⟨v, vs', d, ds', p, q, rfl, rfl, rfl, h1, h2⟩ := trodAll_cons h
    refine ⟨p, q, ?_, all_below (fun t ht => hr t (by simp [ht])) h2 (fun x hx => hp x (by simp [hx])) hb, rfl⟩
    exact Below.trod laidOut (hr t (by simp)).1 (hr t (by simp)).2 h1 hb (fun x hx => hp x (by simp [hx]))
/-- A law that returned true and left what was there as it was. -/
theorem law_post {f : Func} {s : ChangeSpec} {args : Array Value} {ds gs : List (DataW H)} {before : List MemPlace} (hr : ∀ t ∈ f.params.toList, Tryd.prog.readableRec t = true ∧ t < Tryd.prog.types.size)
    (hv : s.vars = []) (hrt : f.resultTypes = #[4]) (hs : ∀ xs, xs = ds → (s.fn H xs).results = [.lit (.bool true)] ∧ (s.fn H xs).args = xs ∧ (s.fn H xs).vars = [])
    (hW : DataW.Whole enc Tryd.prog f.params.toList s.vars false W args.toList ds gs before) (hb : Below W.heap.size W W') :
    s.post enc Tryd.prog f false true false false W args (.bool true) W' := by
  have hlt : ∀ p ∈ before, p.block < W.heap.size := fun p hp => hW.lt p hp
  have hW' := hW
  obtain ⟨p, q, hA, hV, rfl, hz, hn⟩ := hW
  rw [hv] at hV
  obtain ⟨rfl, rfl⟩ := trodVars_none hV
  obtain ⟨e1, e2, e3⟩ := hs (ds ++ []) (by simp)
  refine ⟨ds, [], _, [], p, [], hW', ?_, ?_, ?_, hb.frame _, fun h => by cases h⟩
  · rw [hrt, e1]
    exact ⟨[], [], shut_bool Tryd.underlying4 true, rfl, rfl⟩
  · rw [e2, List.append_nil]
    exact all_below hr hA (fun x hx => hlt x (by simp [hx])) hb
  · rw [hv, e3]
    exact rfl
theorem arg_int {v : Value} {d : DataW H} {p : List MemPlace} (hv : Value.okWide Tryd.prog W .any 0 3 v) (h : DataW.Trod enc Tryd.prog W 0 (fun _ => true) true 3 v d p) : ∃ x, v = .int .i64 x ∧ I64 x := by
  obtain ⟨x, rfl, _, _, wx⟩ := open_int Tryd.underlying3 hv h
  refine ⟨x, rfl, ?_⟩
  simpa [I64, Lit.wf, IntKind.min, IntKind.max, IntKind.bits, IntKind.signed] using wx
end
end Go.Proofs.YtkbfhgcjimfgkaaDoor
set_option maxRecDepth 100000
namespace Go.Proofs.YtkbfhgcjimfgkaaDoor
open Go.RowKit Go.ChangeShapes Go.WideShapes Go.ChangeAt Go.Deep Go.Joins
open Go.ChangeMaps (open_string)
section
variable {H : Type} {enc : TypeId × Value → H} {P : Program} {w : World} {base : Nat} {spare : Nat → Bool} {held : Bool}
theorem open_slice_fields {t e : TypeId} {fs : Array Field} {fuel : Nat} {cs : List Value} {x : DataW H × List MemPlace} (ht : P.underlying t = some (.slice e)) (he : P.underlying e = some (.struct fs))
    (hone : oneCellFields P fs = true) (hC : P.cellsOf e = fs.size) (h : DataW.trod enc P w base spare held fuel t cs = some x) :
    (cs = [.slice none 0 0] ∧ x = (.nil, [])) ∨
    ∃ (a : Addr) (len cap m : Nat) (D : Nat → DataW H) (Pl : Nat → List MemPlace), cs = [.slice (some a) len cap] ∧ base ≤ a.block ∧ len ≤ cap ∧ cap ≤ maxLen ∧ m = (if spare a.block then cap else len) ∧
      x = (.slice ((List.range len).map D) ((List.range (m - len)).map fun j => D (len + j)), MemPlace.row a (m * fs.size) ++ (List.range m).flatMap Pl) ∧
      ∀ i, i < m → ∃ (ys : List (DataW H × List MemPlace)) (n : Nat), D i = .agg (ys.map (·.1)) ∧ Pl i = ys.flatMap (·.2) ∧ ys.length = fs.size ∧
        ∀ (j : Nat) (f : Field), fs[j]? = some f → ∃ (v : Value) (y : DataW H × List MemPlace), w.cell? (a.add (i * fs.size + j)) = some v ∧ ys[j]? = some y ∧ DataW.trod enc P w base spare held n f.type [v] = some y := by
  rcases open_slice ht h with h0 | ⟨a, len, cap, m, n, D, Pl, hcs, hb, hl, hm, hmm, hx, hi⟩
  · exact .inl h0
  · refine .inr ⟨a, len, cap, m, D, Pl, hcs, hb, hl, hm, hmm, by rw [hC] at hx; exact hx, fun i him => ?_⟩
    obtain ⟨cs', hc, ht'⟩ := hi i him
    rw [hC] at hc
    obtain ⟨ys, n', hn', hy, hlen, hyl, hf⟩ := DataW.trod_struct he ht'
    obtain ⟨_, hcl, hat⟩ := World.cells?_some hc
    simp only [Prod.mk.injEq] at hy
    refine ⟨ys, n', hy.1, hy.2, hyl, fun j f hj => ?_⟩
    obtain ⟨ho, hk⟩ := hone_of hone j f hj
    have hjl : j < fs.size := (Array.getElem?_eq_some_iff.1 hj).1
    have hcell := hat j hjl
    have hv : cs'[j]? = some (cs'[j]'(by omega)) := List.getElem?_eq_getElem (by omega)
    have h1 := hf j f hj
    rw [ho, hk] at h1
    have hone' : (cs'.drop j).take 1 = [cs'[j]'(by omega)] := by
      rw [List.drop_eq_getElem_cons (by omega)]
      rfl
    rw [hone'] at h1
    have hys : ys[j]? = some (ys[j]'(by omega)) := List.getElem?_eq_getElem (by omega)
    refine ⟨_, _, ?_, hys, h1.trans hys⟩
    rw [← Go.Deep.add_add, hcell, hv]
end
section
variable {H : Type} {enc : TypeId × Value → H} {P : Program} {w : World} {base : Nat} {spare : Nat → Bool} {held : Bool}
end
section
variable {H : Type} {enc : TypeId × Value → H} {W W' : World}
theorem arg_str {v : Value} {d : DataW H} {p : List MemPlace} (hv : Value.okWide Tryd.prog W .any 0 9 v) (h : DataW.Trod enc Tryd.prog W 0 (fun _ => true) true 9 v d p) : ∃ s : ByteArray, v = .string s ∧ s.size ≤ maxLen := by
  obtain ⟨s, rfl, _, _, hs⟩ := open_string Tryd.underlying9 hv h
  exact ⟨s, rfl, hs⟩
theorem cells_raw : Tryd.prog.cellsOf 99 = 5 := by kernel_rfl
theorem wf_i64 {x : Int} (h : (Lit.int .i64 x).wf = true) : I64 x := by simpa [I64, Lit.wf, IntKind.min, IntKind.max, IntKind.bits, IntKind.signed] using h
theorem field_int {n : Nat} {v : Value} {y : DataW H × List MemPlace} {base : Nat} (h : DataW.trod enc Tryd.prog W base (fun _ => true) true n 3 [v] = some y) : ∃ x, v = .int .i64 x ∧ I64 x := by
  obtain ⟨x, h1, _, h3⟩ := DataW.trod_int Tryd.underlying3 h
  simp at h1
  exact ⟨x, h1, wf_i64 h3⟩
theorem field_str {n : Nat} {v : Value} {y : DataW H × List MemPlace} {base : Nat} (h : DataW.trod enc Tryd.prog W base (fun _ => true) true n 9 [v] = some y) : ∃ s : ByteArray, v = .string s ∧ s.size ≤ maxLen := by
  obtain ⟨s, h1, _, h3⟩ := DataW.trod_string Tryd.underlying9 h
  simp at h1
  exact ⟨s, h1, h3⟩
theorem arg_raws {v : Value} {d : DataW H} {p : List MemPlace} (hv : Value.okWide Tryd.prog W .any 0 56 v) (h : DataW.Trod enc Tryd.prog W 0 (fun _ => true) true 56 v d p) :
    ∃ a n c, ∃ l : List Raw, v = .slice a n c ∧ RdS (· < W.heap.size) W l a n c := by
  obtain ⟨a, n, c, rfl⟩ := okWide_slice Tryd.underlying56 hv
  obtain ⟨fuel, hf⟩ := h
  refine ⟨a, n, c, ?_⟩
  rcases open_slice_fields Tryd.underlying56 Tryd.underlying99 (by kernel_rfl) cells_raw hf with ⟨hcs, _⟩ | ⟨ad, len, cap, m, D, Pl, hcs, _, hl, hm, hmm, _, hx⟩
  · simp [Value.cells] at hcs
    obtain ⟨rfl, rfl, rfl⟩ := hcs
    exact ⟨[], rfl, rfl, by omega, by unfold maxLen; omega, fun _ => rfl, fun h => absurd h (by omega)⟩
  · simp [Value.cells] at hcs
    obtain ⟨rfl, rfl, rfl⟩ := hcs
    simp only [if_true] at hmm
    subst hmm
    have each : ∀ i, i < n → ∃ x : Raw, x.ok ∧ ∀ j u, (rawCells x)[j]? = some u → W.cell? (ad.add (i * 5 + j)) = some u := by
      intro i hi
      obtain ⟨ys, f, _, _, _, hfld⟩ := hx i (by omega)
      obtain ⟨v0, y0, c0, _, t0⟩ := hfld 0 _ rfl
      obtain ⟨v1, y1, c1, _, t1⟩ := hfld 1 _ rfl
      obtain ⟨v2, y2, c2, _, t2⟩ := hfld 2 _ rfl
      obtain ⟨v3, y3, c3, _, t3⟩ := hfld 3 _ rfl
      obtain ⟨v4, y4, c4, _, t4⟩ := hfld 4 _ rfl
      obtain ⟨x0, rfl, b0⟩ := field_int t0
      obtain ⟨x1, rfl, b1⟩ := field_int t1
      obtain ⟨x2, rfl, b2⟩ := field_int t2
      obtain ⟨x3, rfl, b3⟩ := field_int t3
      obtain ⟨x4, rfl, b4⟩ := field_str t4
      refine ⟨⟨x0, x1, x2, x3, x4⟩, ⟨b0, b1, b2, b3, b4⟩, fun j u hu => ?_⟩
      match j, hu with
      | 0, hu => simp [rawCells] at hu; rw [← hu]; exact c0
      | 1, hu => simp [rawCells] at hu; rw [← hu]; exact c1
      | 2, hu => simp [rawCells] at hu; rw [← hu]; exact c2
      | 3, hu => simp [rawCells] at hu; rw [← hu]; exact c3
      | 4, hu => simp [rawCells] at hu; rw [← hu]; exact c4
    obtain ⟨g, hg⟩ : ∃ g : Nat → Raw, ∀ i, i < n → (g i).ok ∧ ∀ j u, (rawCells (g i))[j]? = some u → W.cell? (ad.add (i * 5 + j)) = some u := by
      classical
      refine ⟨fun i => if h : i < n then (each i h).choose else ⟨0, 0, 0, 0, noText⟩, fun i hi => ?_⟩
      simp only [dif_pos hi]
      exact (each i hi).choose_spec
    refine ⟨(List.range n).map g, rfl, by simp, hl, hm, (fun h => by cases h), fun hn => ?_⟩
    have h0 := (hg 0 (by omega)).2 0 _ rfl
    have hs : ad.spot = none := by
      cases hs : ad.spot with
      | none => rfl
      | some k => unfold World.cell? at h0; simp [Addr.add, hs] at h0; split at h0 <;> cases h0
    have hlt : ad.block < W.heap.size := World.block_lt_of_cell? W (ad.add (0 * 5 + 0)) h0
    obtain ⟨b, off, spot⟩ := ad
    simp only at hs hlt
    subst hs
    refine ⟨b, off, rfl, hlt, hlt, fun i x hi => ?_⟩
    have hin : i < n := by
      have := (List.getElem?_eq_some_iff.1 hi).1
      simpa using this
    have hxi : x = g i := by
      rw [List.getElem?_map, List.getElem?_range hin] at hi
      simp at hi
      exact hi.symm
    subst hxi
    refine ⟨rawCells (g i), ⟨rfl, (hg i hin).1⟩, fun j u hu => ?_⟩
    have h1 := (hg i hin).2 j u hu
    have e : (⟨b, off, none⟩ : Addr).add (i * 5 + j) = ⟨b, off + (i * 5 + j), none⟩ := by
      unfold Addr.add
      split
      · rename_i h0; rw [h0]; rfl
      · rfl
    rw [e] at h1
    simp only [Rep.n]
    rw [Nat.add_assoc]
    exact h1
end
theorem accept_eq : (Rows.laid_unicode_utf8_acceptRanges : DataW Unit) = Lib.acceptData := by kernel_rfl
theorem first_eq : Rows.laid_unicode_utf8_first = Lib.firstData := Pinned.utf8First_eq
theorem good_of {W : World} (hL : laidMetH Tryd.prog [("unicode/utf8.acceptRanges", Rows.laid_unicode_utf8_acceptRanges), ("unicode/utf8.first", Rows.laid_unicode_utf8_first)] W) : Good W := by
  have hL2 : laidMet Tryd.prog [("unicode/utf8.acceptRanges", Rows.laid_unicode_utf8_acceptRanges), ("unicode/utf8.first", Rows.laid_unicode_utf8_first)] W := hL
  rw [accept_eq, first_eq] at hL2
  have htab : Lib.Utf8Tabs (Tryd.lays196_ren.g 3) (Tryd.lays196_ren.g 4) W :=
    utf8Tabs_of_readsT (U8Types.of196 Tryd.lays196) ⟨by kernel_rfl, by kernel_rfl, by kernel_rfl, by kernel_rfl, by kernel_rfl, by kernel_rfl, by kernel_rfl⟩ (Lib.laidMet.reads hL2 (.tail _ (.head _))) (Lib.laidMet.reads hL2 (.head _))
  have h1 := World.block_lt_of_cell? W _ (htab.2 0 (by omega)).1
  have h0 := World.block_lt_of_cell? W _ (htab.1 0 (by omega))
  refine ⟨?_, htab⟩
  have e1 : Tryd.lays196_ren.g 4 = 1 := rfl
  have e0 : Tryd.lays196_ren.g 3 = 0 := rfl
  rw [e1] at h1
  rw [e0] at h0
  simp only at h0 h1
  omega
/-- THE WITNESS: the settled world, the two variables holding what their initialisers lay. -/
noncomputable def laidWorld (os : Os) : World :=
  let w0 := World.holding Tryd.prog os ⟨#[], #[], []⟩
  let put (h : Array Obj) (g : Nat) (cs : Array Value) : Array Obj := h.modify g fun
    | .cells _ t frozen => .cells cs t frozen
    | o => o
  let h1 := put w0.heap 0 (Lib.firstTab.map fun z => Value.int .u8 z).toArray
  let h2 := put h1 1 ((List.range 16).flatMap fun i => [Value.int .u8 (Lib.accLo i), Value.int .u8 (Lib.accHi i)]).toArray
  { w0 with heap := h2 }
theorem laid_met (os : Os) (args : Array Value) : laidMet Tryd.prog [("unicode/utf8.acceptRanges", Rows.laid_unicode_utf8_acceptRanges), ("unicode/utf8.first", Rows.laid_unicode_utf8_first)] ((laidWorld os).forCall (fun _ _ => 0) ⟨#[], args, []⟩).memory := by
  rw [accept_eq, first_eq]
  exact (LaidIn.of_run (l := [("unicode/utf8.acceptRanges", Lib.acceptData), ("unicode/utf8.first", Lib.firstData)]) [1, 0] 8 (by kernel_rfl) (by kernel_rfl) (by kernel_rfl) (by kernel_rfl)).met
end Go.Proofs.YtkbfhgcjimfgkaaDoor
