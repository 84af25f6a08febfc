/- The walk of slices.Clone at bytes. -/
import Derived.Test.YtdbdhpjjndhjiaaDoorRdOp
set_option linter.unusedSimpArgs false
namespace Go.Proofs.YtdbdhpjjndhjiaaDoor
open Go.RowKit

theorem bb_one (l : Bs) : ∀ v ∈ bb l, v.oneCell' = true := by
  intro v hv
  obtain ⟨x, _, rfl⟩ := List.mem_map.1 hv
  rfl
theorem news_bytes {w : World} {l : Bs} {b off : Nat} (hcs : ∀ i (h : i < l.length), w.cell? ⟨b, off + i, none⟩ = some (.int .u8 (l[i].toNat : Int))) : ∀ j u, (bb l)[j]? = some u → w.cell? ((⟨b, off, none⟩ : Addr).add j) = some u := by
  intro j u hu
  have hj : j < l.length := by have := (List.getElem?_eq_some_iff.1 hu).1; rwa [bb_len] at this
  have e : (⟨b, off, none⟩ : Addr).add j = ⟨b, off + j, none⟩ := by
    unfold Addr.add
    split
    · rename_i h0; rw [h0, Nat.add_zero]
    · simp
  rw [e, hcs j hj]
  simp [bb, hj] at hu
  rw [hu]
theorem rd_bytes {w : World} {A : Nat → Prop} {base : Nat} {l : Bs} {v : Value} (hown : w.ownsRow base 5 1 v l.length (bb l)) (hA : ∀ k, v.ownBlock = some k → A k) :
    ∃ a c, v = .slice a l.length c ∧ Flat a ∧ RdS A w l a l.length c := by
  obtain ⟨a, n, c, hv, hr⟩ := RdS.of_row (α := UInt8) hown hA (fun i x hx => ⟨[.int .u8 (x.toNat : Int)], rfl, fun j u hu => by
    have hj : j = 0 := by
      cases j with
      | zero => rfl
      | succ j => simp at hu
    subst hj
    simp at hu
    subst hu
    show (bb l)[i * 1 + 0]? = _
    simp [bb, hx]⟩)
  have hn := hr.1
  subst hn
  refine ⟨a, c, hv, ?_, hr⟩
  rcases hown.2 with ⟨h, h0⟩ | ⟨g, cap, cur, h, _⟩
  · rw [hv] at h; injection h with h1 _ _; exact .inl h1
  · rw [hv] at h; injection h with h1 _ _; exact .inr ⟨g, 0, h1⟩
/-- what a copy of bytes is: the same bytes, in a row of the call's own -/
def CloneP (w : World) (o : Bs) (e : Ending) (w' : World) : Prop :=
  ∃ a c, e = .returned (.slice a o.length c) ∧ Flat a ∧ RdS (fun b => w.heap.size ≤ b ∧ b < w'.heap.size) w' o a o.length c ∧ Below w.heap.size w w'
set_option maxRecDepth 100000 in
set_option maxHeartbeats 1000000 in
theorem cloneB_any (o : Bs) (a : Option Addr) (n c : Nat) (w : World) (hr : RdS (· < w.heap.size) w o a n c) (hn : n ≤ 1000000000) :
    Calls Tryd.prog 40 #[.slice a n c] w (CloneP w o) := by
  obtain ⟨i0, hi, hz0, hz1, hz2⟩ := info_parts infoU8
  have hnl := hr.1
  by_cases h0 : n = 0
  · have ho : o = [] := List.eq_nil_of_length_eq_zero (by omega)
    subst ho h0
    have hca := hr.2.2.2.1
    clear hr hnl
    cases a with
    | none =>
      have Hfin : Hid (CloneP w [] (.returned (.slice none 0 0)) w) := ⟨none, 0, rfl, .inl rfl, RdS.nil' _ _ _ _ (by unfold maxLen; omega) (fun _ => rfl), Below.refl _ _⟩
      have hc0 : c = 0 := hca rfl
      subst hc0
      clear hca
      have heq := fun W : World => Lib.run_eql_slice_nil (P := Tryd.prog) W 25 5 none 0 0 0 0 Tryd.underlying25
      go_enter Tryd.func40, Tryd.ntmps40
      go_wp2_with fail
      go_ret
      exact Hfin.out
    | some ad =>
      clear hca
      have Hfin : Hid (CloneP w [] (.returned (.slice (some ⟨w.heap.size, 0, none⟩) 0 0)) (w.alloc (.cells #[] 5))) := ⟨some ⟨w.heap.size, 0, none⟩, 0, rfl, .inr ⟨_, _, rfl⟩, RdS.nil' _ _ _ _ (by unfold maxLen; omega) (fun h => by cases h), (Below.refl _ _).alloc (Nat.le_refl _) _⟩
      have heq := fun W : World => Lib.run_eql_slice_nil (P := Tryd.prog) W 25 5 (some ad) 0 c 0 0 Tryd.underlying25
      go_enter Tryd.func40, Tryd.ntmps40
      go_wp2_with (at_builtin; refine wpList_append_empty rfl _ _ _ (by rfl) 5 i0 Tryd.underlying25 hi (some ⟨w.heap.size, 0, none⟩) 0 (by rfl) (some ad) c (by rfl) ?_)
      go_ret
      exact Hfin.out
  · obtain ⟨b, off, rfl, _, hbs, hcs⟩ := hr.byte (by omega)
    have hnews : ∀ j u, (bb o)[j]? = some u → w.cell? ((⟨b, off, none⟩ : Addr).add j) = some u := news_bytes hcs
    have Hnews := Lib.hid (p := ∀ W : World, Below w.heap.size w W → ∀ j u, (bb o)[j]? = some u → W.cell? ((⟨b, off, none⟩ : Addr).add j) = some u) (fun W hW j u hu => (hW.cell (p := (⟨b, off, none⟩ : Addr).add j) (by unfold Addr.add; split <;> exact hbs)).trans (hnews j u hu))
    have Hnl := Lib.hid hnl
    have hfl : (bb o).length = n * 1 := by rw [bb_len]; omega
    have Hfl := Lib.hid hfl
    have Hown : Hid ((w.alloc (.cells #[] 5)).ownsRow w.heap.size 5 1 (.slice (some ⟨w.heap.size, 0, none⟩) 0 0) 0 []) := ⟨rfl, .inr ⟨w.heap.size, 0, #[], rfl, Nat.le_refl _, heap_alloc_new w _, Nat.le_refl _, by unfold maxLen; omega, rfl, rfl⟩⟩
    clear hr hnews hnl hfl hcs
    have heq := fun W : World => Lib.run_eql_slice_nil (P := Tryd.prog) W 25 5 (some ⟨b, off, none⟩) n c 0 0 Tryd.underlying25
    go_enter Tryd.func40, Tryd.ntmps40
    go_wp2_with (at_builtin; refine wpList_append_lies _ rfl _ _ _ (by rfl) w.heap.size 5 i0 _ 1 1 Tryd.underlying25 hi hz0 hz1 hz2 rfl (by omega) (.slice (some ⟨w.heap.size, 0, none⟩) 0 0) 0 [] (by rfl) Hown.out ⟨b, off, none⟩ n c (bb o) (by rfl) Hfl.out (Hnews.out _ ((Below.refl _ _).alloc (Nat.le_refl _) _)) (bb_one o) (by omega) (by unfold maxLen; omega) (by omega) (by simp) (w.heap.size + 1) (by simp) ?_)
    intro gg cap w1 hown1 hgrow hat hlt1
    have Hfin : Hid (CloneP w o (.returned (.slice (some ⟨gg, 0, none⟩) n cap)) w1) := by
      have hnl := Hnl.out
      try rw [Nat.zero_add] at hown1
      try rw [List.nil_append] at hown1
      rw [hnl] at hown1
      obtain ⟨a2, c2, hv, hfa, hr2⟩ := rd_bytes hown1 (A := fun b => w.heap.size ≤ b ∧ b < w1.heap.size) (fun k hk => hown1.lt k hk)
      injection hv with h1 h2 h3
      subst h1 h3
      refine ⟨_, _, by rw [hnl], hfa, hr2, ?_⟩
      exact ((Below.refl _ _).alloc (Nat.le_refl _) _).grown hgrow (by simp) (fun g hg => by simp [Value.ownBlock] at hg; omega)
    clear hown1 hgrow hat
    go_wp2_with fail
    go_ret
    exact Hfin.out
end Go.Proofs.YtdbdhpjjndhjiaaDoor
