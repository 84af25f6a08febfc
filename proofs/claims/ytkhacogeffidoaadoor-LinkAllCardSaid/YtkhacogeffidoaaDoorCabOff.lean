/- Links stand behind a store into a block that holds no string; the cable's slices, one put in another's place. -/
import Derived.Test.YtkhacogeffidoaaDoorCab
set_option linter.unusedVariables false
set_option linter.unusedSimpArgs false
namespace Go.Proofs.YtkhacogeffidoaaDoor
open Go.RowKit

theorem frames_off {A : Nat → Prop} {w : World} {ps : List Fr} {a : Option Addr} {n c g : Nat} (h : RdS A w ps a n c) (hg : ∀ j s, w.cell? ⟨g, j, none⟩ ≠ some (.string s)) : RdS (fun z => A z ∧ z ≠ g) w ps a n c := by
  obtain ⟨h1, h2, h3, h4, h5⟩ := h
  refine ⟨h1, h2, h3, h4, fun hn => ?_⟩
  obtain ⟨b, off, e, hA, hb, he⟩ := h5 hn
  refine ⟨b, off, e, ⟨hA, ?_⟩, hb, fun i x hi => ?_⟩
  · rintro rfl
    cases ps with
    | nil => simp at h1; omega
    | cons x o =>
      obtain ⟨xs, ⟨a', n', c', rfl, -⟩, h6⟩ := he 0 x rfl
      exact hg _ _ (h6 4 _ rfl)
  · obtain ⟨xs, ⟨a', n', c', e, hr, hf⟩, h6⟩ := he i x hi
    exact ⟨xs, ⟨a', n', c', e, parts_off hr hg, hf⟩, h6⟩
theorem LkVal.off {B : Nat} {l : Lk} {v : Value} {g : Nat} {w w' : World} (h : LkVal B l v w) (hz : Blk g (.cells #[.int .i64 0, .int .i64 0, .slice none 0 0, .slice none 0 0, .int .i64 0] 33 (0, 0)) w) (ht : Touch (fun z => z = g) w w') : LkVal B l v w' := by
  obtain ⟨a, c, b, d, e, h1, h2⟩ := h
  have hm : ∀ z, (Fresh B w z ∧ z ≠ g) → Fresh B w' z ∧ w'.heap[z]? = w.heap[z]? := fun z hz => ⟨⟨hz.1.1, Nat.lt_of_lt_of_le hz.1.2 ht.size⟩, ht.block z hz.1.2 hz.2⟩
  exact ⟨a, c, b, d, e, (frames_off h1 (zero_link hz)).mono hm, (frames_off h2 (zero_link hz)).mono hm⟩
theorem RdS.past2 {α : Type} [Rep α] {B : Nat} {S : Nat → Prop} {w w' : World} {l : List α} {a : Option Addr} {n c : Nat} (h : RdS (Fresh B w) w l a n c) (ht : Touch S w w') (hs : ∀ z, Fresh B w z → ¬ S z) : RdS (Fresh B w') w' l a n c :=
  h.mono fun z hz => ⟨⟨hz.1, Nat.lt_of_lt_of_le hz.2 ht.size⟩, ht.block z hz.2 (hs z hz)⟩
theorem upd_same {vs : Nat → Value} {j : Nat} : (fun q => if q = j then vs j else vs q) = vs := by
  funext q
  by_cases e : q = j
  · rw [if_pos e, e]
  · rw [if_neg e]
theorem blk16_cells {w : World} {g T : Nat} {c0 c1 c2 c3 c4 c5 c6 c7 c8 c9 c10 c11 c12 c13 c14 c15 : Value} (h : Blk g (.cells #[c0, c1, c2, c3, c4, c5, c6, c7, c8, c9, c10, c11, c12, c13, c14, c15] T (0, 0)) w) :
    (w.cell? ⟨g, 0, none⟩ = some c0 ∧ w.cell? ⟨g, 1, none⟩ = some c1 ∧ w.cell? ⟨g, 2, none⟩ = some c2 ∧ w.cell? ⟨g, 3, none⟩ = some c3 ∧ w.cell? ⟨g, 4, none⟩ = some c4) ∧ (w.cell? ⟨g, 5, none⟩ = some c5 ∧ w.cell? ⟨g, 6, none⟩ = some c6 ∧ w.cell? ⟨g, 7, none⟩ = some c7 ∧ w.cell? ⟨g, 8, none⟩ = some c8 ∧ w.cell? ⟨g, 9, none⟩ = some c9) ∧
    w.cell? ⟨g, 10, none⟩ = some c10 ∧ w.cell? ⟨g, 11, none⟩ = some c11 ∧ w.cell? ⟨g, 12, none⟩ = some c12 ∧ w.cell? ⟨g, 13, none⟩ = some c13 ∧ w.cell? ⟨g, 14, none⟩ = some c14 ∧ w.cell? ⟨g, 15, none⟩ = some c15 :=
  ⟨⟨h.cell 0, h.cell 1, h.cell 2, h.cell 3, h.cell 4⟩, ⟨h.cell 5, h.cell 6, h.cell 7, h.cell 8, h.cell 9⟩, h.cell 10, h.cell 11, h.cell 12, h.cell 13, h.cell 14, h.cell 15⟩
end Go.Proofs.YtkhacogeffidoaaDoor
