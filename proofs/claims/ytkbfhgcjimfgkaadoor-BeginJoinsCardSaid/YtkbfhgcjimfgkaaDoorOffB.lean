/- Links and their frames stand behind a store into a block that holds no string. -/
import Derived.Test.YtkbfhgcjimfgkaaDoorLkBox
set_option linter.unusedVariables false
set_option linter.unusedSimpArgs false
namespace Go.Proofs.YtkbfhgcjimfgkaaDoor
open Go.RowKit

theorem frames_off {A : Nat → Prop} {w : World} {ps : List Fr} {a : Option Addr} {n c g : Nat} (h : RdS A w ps a n c) (hg : ∀ j s, w.cell? ⟨g, j, none⟩ ≠ some (.string s)) : RdS (fun z => A z ∧ z ≠ g) w ps a n c := by
  obtain ⟨h1, h2, h3, h4, h5⟩ := h
  refine ⟨h1, h2, h3, h4, fun hn => ?_⟩
  obtain ⟨b, off, e, hA, hb, he⟩ := h5 hn
  refine ⟨b, off, e, ⟨hA, ?_⟩, hb, fun i x hi => ?_⟩
  · rintro rfl
    cases ps with
    | nil => simp at h1; omega
    | cons x o =>
      obtain ⟨xs, ⟨a', n', c', rfl, -⟩, h6⟩ := he 0 x rfl
      exact hg _ _ (h6 4 _ rfl)
  · obtain ⟨xs, ⟨a', n', c', e, hr, hf⟩, h6⟩ := he i x hi
    exact ⟨xs, ⟨a', n', c', e, parts_off hr hg, hf⟩, h6⟩
theorem LkVal.off {B : Nat} {l : Lk} {v : Value} {g : Nat} {w w' : World} (h : LkVal B l v w) (hz : Blk g (.cells #[.int .i64 0, .int .i64 0, .slice none 0 0, .slice none 0 0, .int .i64 0] 70 (0, 0)) w) (ht : Touch (fun z => z = g) w w') : LkVal B l v w' := by
  obtain ⟨a, c, b, d, e, h1, h2⟩ := h
  have hm : ∀ z, (Fresh B w z ∧ z ≠ g) → Fresh B w' z ∧ w'.heap[z]? = w.heap[z]? := fun z hz => ⟨⟨hz.1.1, Nat.lt_of_lt_of_le hz.1.2 ht.size⟩, ht.block z hz.1.2 hz.2⟩
  exact ⟨a, c, b, d, e, (frames_off h1 (zero_link hz)).mono hm, (frames_off h2 (zero_link hz)).mono hm⟩
theorem RdS.past2 {α : Type} [Rep α] {B : Nat} {S : Nat → Prop} {w w' : World} {l : List α} {a : Option Addr} {n c : Nat} (h : RdS (Fresh B w) w l a n c) (ht : Touch S w w') (hs : ∀ z, Fresh B w z → ¬ S z) : RdS (Fresh B w') w' l a n c :=
  h.mono fun z hz => ⟨⟨hz.1, Nat.lt_of_lt_of_le hz.2 ht.size⟩, ht.block z hz.2 (hs z hz)⟩
end Go.Proofs.YtkbfhgcjimfgkaaDoor
