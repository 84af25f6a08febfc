/- The walk of slices.Clone at operations. -/
import Derived.Test.YtkbfhgcjimfgkaaDoorCopyP
set_option linter.unusedVariables false
set_option linter.unusedSimpArgs false
namespace Go.Proofs.YtkbfhgcjimfgkaaDoor
open Go.RowKit

set_option maxRecDepth 100000 in
set_option maxHeartbeats 1000000 in
theorem clone_any (o : Op) (a : Option Addr) (n c : Nat) (w : World) (hr : RdS (· < w.heap.size) w o a n c) (hn : n ≤ 1000000000) :
    Calls Tryd.prog 82 #[.slice a n c] w (CopyPost w o) := by
  obtain ⟨i0, hi, hz0, hz1, hz2⟩ := info_parts infoP
  have hnl := hr.1
  have hfit := hr.fits
  by_cases h0 : n = 0
  · have ho : o = [] := List.eq_nil_of_length_eq_zero (by omega)
    subst ho h0
    have hca := hr.2.2.2.1
    clear hr hfit hnl
    cases a with
    | none =>
      have Hfin : Hid (CopyPost w [] (.returned (.slice none 0 0)) w) := ⟨none, 0, rfl, RdS.nil' _ _ _ _ (by unfold maxLen; omega) (fun _ => rfl), Below.refl _ _⟩
      have hc0 : c = 0 := hca rfl
      subst hc0
      clear hca
      have heq := fun W : World => Lib.run_eql_slice_nil (P := Tryd.prog) W 42 53 none 0 0 0 0 Tryd.underlying42
      go_enter Tryd.func82, Tryd.ntmps82
      go_wp2_with fail
      go_ret
      exact Hfin.out
    | some ad =>
      clear hca
      have Hfin : Hid (CopyPost w [] (.returned (.slice (some ⟨w.heap.size, 0, none⟩) 0 0)) (w.alloc (.cells #[] 53))) := ⟨some ⟨w.heap.size, 0, none⟩, 0, rfl, RdS.nil' _ _ _ _ (by unfold maxLen; omega) (fun h => by cases h), (Below.refl _ _).alloc (Nat.le_refl _) _⟩
      have heq := fun W : World => Lib.run_eql_slice_nil (P := Tryd.prog) W 42 53 (some ad) 0 c 0 0 Tryd.underlying42
      go_enter Tryd.func82, Tryd.ntmps82
      go_wp2_with (at_builtin; refine wpList_append_empty rfl _ _ _ (by rfl) 53 i0 Tryd.underlying42 hi (some ⟨w.heap.size, 0, none⟩) 0 (by rfl) (some ad) c (by rfl) ?_)
      go_ret
      exact Hfin.out
  · obtain ⟨b, off, rfl, _, hbs, _⟩ := hr.part (by omega)
    have hnews := hr.news (by omega)
    have Hfit := Lib.hid hfit
    have Hnews := Lib.hid (p := ∀ W : World, Below w.heap.size w W → ∀ j u, (flat o)[j]? = some u → W.cell? ((⟨b, off, none⟩ : Addr).add j) = some u) (fun W hW j u hu => (hW.cell (p := (⟨b, off, none⟩ : Addr).add j) (by unfold Addr.add; split <;> exact hbs)).trans (hnews j u hu))
    have Hnl := Lib.hid hnl
    have hfl : (flat o).length = n * 3 := by rw [flat_len]; omega
    have Hfl := Lib.hid hfl
    have Hown : Hid ((w.alloc (.cells #[] 53)).ownsRow w.heap.size 53 3 (.slice (some ⟨w.heap.size, 0, none⟩) 0 0) 0 []) := ⟨rfl, .inr ⟨w.heap.size, 0, #[], rfl, Nat.le_refl _, heap_alloc_new w _, Nat.le_refl _, by unfold maxLen; omega, rfl, rfl⟩⟩
    clear hr hfit hnews hnl hfl
    have heq := fun W : World => Lib.run_eql_slice_nil (P := Tryd.prog) W 42 53 (some ⟨b, off, none⟩) n c 0 0 Tryd.underlying42
    go_enter Tryd.func82, Tryd.ntmps82
    go_wp2_with (at_builtin; refine wpList_append_lies _ rfl _ _ _ (by rfl) w.heap.size 53 i0 _ 3 32 Tryd.underlying42 hi hz0 hz1 hz2 rfl (by omega) (.slice (some ⟨w.heap.size, 0, none⟩) 0 0) 0 [] (by rfl) Hown.out ⟨b, off, none⟩ n c (flat o) (by rfl) Hfl.out (Hnews.out _ ((Below.refl _ _).alloc (Nat.le_refl _) _)) (flat_one' o) (by omega) (by unfold maxLen; omega) (by omega) (by simp) (w.heap.size + 1) (by simp) ?_)
    intro gg cap w1 hown1 hgrow hat hlt1
    have Hfin : Hid (CopyPost w o (.returned (.slice (some ⟨gg, 0, none⟩) n cap)) w1) := by
      have hnl := Hnl.out
      try rw [Nat.zero_add] at hown1
      try rw [List.nil_append] at hown1
      rw [hnl] at hown1
      obtain ⟨a2, c2, hv, hr2⟩ := RdS.of_own hown1 Hfit.out
      injection hv with h1 h2 h3
      subst h1 h3
      refine ⟨_, _, by rw [hnl], hr2, ?_⟩
      exact ((Below.refl _ _).alloc (Nat.le_refl _) _).grown hgrow (by simp) (fun g hg => by simp [Value.ownBlock] at hg; omega)
    clear hown1 hgrow hat
    go_wp2_with fail
    go_ret
    exact Hfin.out
end Go.Proofs.YtkbfhgcjimfgkaaDoor
