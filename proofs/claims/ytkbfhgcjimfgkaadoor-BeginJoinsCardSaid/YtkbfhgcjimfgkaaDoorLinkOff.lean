/- Packets stand behind a store into a block that holds neither a string nor a bool. -/
import Derived.Test.YtkbfhgcjimfgkaaDoorLinkVal
set_option linter.unusedVariables false
set_option linter.unusedSimpArgs false
namespace Go.Proofs.YtkbfhgcjimfgkaaDoor
open Go.RowKit

theorem parts_off {A : Nat → Prop} {w : World} {o : Op} {a : Option Addr} {n c g : Nat} (h : RdS A w o a n c) (hg : ∀ j s, w.cell? ⟨g, j, none⟩ ≠ some (.string s)) : RdS (fun z => A z ∧ z ≠ g) w o a n c := by
  obtain ⟨h1, h2, h3, h4, h5⟩ := h
  refine ⟨h1, h2, h3, h4, fun hn => ?_⟩
  obtain ⟨b, off, e, hA, hb, he⟩ := h5 hn
  refine ⟨b, off, e, ⟨hA, ?_⟩, hb, he⟩
  rintro rfl
  cases o with
  | nil => simp at h1; omega
  | cons x o =>
    obtain ⟨xs, ⟨rfl, -⟩, h6⟩ := he 0 x rfl
    exact hg _ _ (h6 2 _ rfl)
theorem packets_off {A : Nat → Prop} {w : World} {ps : List Pkt} {a : Option Addr} {n c g : Nat} (h : RdS A w ps a n c) (hg : ∀ j s, w.cell? ⟨g, j, none⟩ ≠ some (.string s)) : RdS (fun z => A z ∧ z ≠ g) w ps a n c := by
  obtain ⟨h1, h2, h3, h4, h5⟩ := h
  refine ⟨h1, h2, h3, h4, fun hn => ?_⟩
  obtain ⟨b, off, e, hA, hb, he⟩ := h5 hn
  refine ⟨b, off, e, ⟨hA, ?_⟩, hb, fun i x hi => ?_⟩
  · rintro rfl
    cases ps with
    | nil => simp at h1; omega
    | cons x o =>
      obtain ⟨xs, ⟨a', n', c', rfl, -⟩, h6⟩ := he 0 x rfl
      exact hg _ _ (h6 8 _ rfl)
  · obtain ⟨xs, ⟨a', n', c', e, hr, hf⟩, h6⟩ := he i x hi
    exact ⟨xs, ⟨a', n', c', e, parts_off hr hg, hf⟩, h6⟩
/-- a zero link holds no string -/
theorem zero_link {g : Nat} {w : World} (h : Blk g (.cells #[.int .i64 0, .int .i64 0, .slice none 0 0, .slice none 0 0, .int .i64 0] 70 (0, 0)) w) : ∀ j s, w.cell? ⟨g, j, none⟩ ≠ some (.string s) := by
  intro j s
  rw [h.cell j]
  match j with
  | 0 => simp
  | 1 => simp
  | 2 => simp
  | 3 => simp
  | 4 => simp
  | j + 5 => simp
theorem PsVal.off {B : Nat} {ps : List Pkt} {v : Value} {g : Nat} {w w' : World} (h : PsVal B ps v w) (hz : Blk g (.cells #[.int .i64 0, .int .i64 0, .slice none 0 0, .slice none 0 0, .int .i64 0] 70 (0, 0)) w) (ht : Touch (fun z => z = g) w w') : PsVal B ps v w' := by
  obtain ⟨pa, pc, e, hr⟩ := h
  exact ⟨pa, pc, e, (packets_off hr (zero_link hz)).mono fun z hz => ⟨⟨hz.1.1, Nat.lt_of_lt_of_le hz.1.2 ht.size⟩, ht.block z hz.1.2 hz.2⟩⟩
end Go.Proofs.YtkbfhgcjimfgkaaDoor
