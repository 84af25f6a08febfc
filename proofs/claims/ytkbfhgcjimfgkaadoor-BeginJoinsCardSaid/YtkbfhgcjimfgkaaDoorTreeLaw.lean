/- Plain: a tree of raw numbers may be; a tree as a slice of the call's own. -/
import Derived.Test.YtkbfhgcjimfgkaaDoorTree
import Derived.Test.YtkbfhgcjimfgkaaDoorFirst
set_option linter.unusedVariables false
set_option linter.unusedSimpArgs false
namespace Go.Proofs.YtkbfhgcjimfgkaaDoor
open Go.RowKit

theorem tree_len (l : List Int) : 1 ≤ (tree l).length ∧ (tree l).length ≤ 7 := by
  unfold tree; rw [treeTo_len]; omega
theorem tree_ok (l : List Int) : checkTree (tree l) = 0 := by
  have := tree_len l
  unfold checkTree
  rw [if_neg (by omega)]; exact if_pos (treeTo_ok _ _)
theorem treeTo_64 (l : List Int) (k : Nat) (hk : k ≤ 6) : ∀ x ∈ treeTo l k, I64 x := by
  intro x hx
  obtain ⟨i, hi, rfl⟩ := List.getElem_of_mem hx
  have h := treeTo_ok l k i hi
  rw [treeTo_len] at hi
  unfold I64
  rcases Nat.eq_zero_or_pos i with h0 | h0
  · have := h.1 h0; omega
  · have := h.2 h0; omega
theorem tree_64 (l : List Int) : ∀ x ∈ tree l, I64 x := treeTo_64 l _ (by omega)
/-- a tree with a child of the root more -/
def tree0 (l : List Int) : List Int := tree (l.take 5) ++ [0]
theorem tree0_len (l : List Int) : (tree0 l).length = (tree (l.take 5)).length + 1 ∧ 2 ≤ (tree0 l).length ∧ (tree0 l).length ≤ 7 := by
  have h := tree_len (l.take 5)
  have e : (tree0 l).length = (tree (l.take 5)).length + 1 := by unfold tree0; simp
  have h6 : (tree (l.take 5)).length ≤ 6 := by
    unfold tree
    rw [treeTo_len, List.length_take]; omega
  omega
theorem tree0_ok (l : List Int) : checkTree (tree0 l) = 0 := by
  obtain ⟨h1, h2, h3⟩ := tree0_len l
  have ho : okTree (tree (l.take 5)) := treeTo_ok _ _
  unfold checkTree
  rw [if_neg (by omega)]
  refine if_pos fun i hi => ?_
  unfold tree0 at hi ⊢
  by_cases h : i < (tree (l.take 5)).length
  · rw [List.getElem_append_left h]; exact ho i h
  · rw [List.getElem_append_right (by omega)]
    have hi2 : i = (tree (l.take 5)).length := by simp at hi; omega
    have := (tree_len (l.take 5)).1
    exact ⟨fun e => by omega, fun _ => ⟨by simp, by simp; omega⟩⟩
theorem RdS.take {α : Type} [Rep α] {A : Nat → Prop} {w : World} {l : List α} {a : Option Addr} {n c : Nat} (hr : RdS A w l a n c) (k m : Nat) (hm : m = min n k) : RdS A w (l.take k) a m c := by
  have h1 := hr.1
  refine ⟨by rw [List.length_take]; omega, by have := hr.2.1; omega, hr.2.2.1, hr.2.2.2.1, fun h0 => ?_⟩
  obtain ⟨b, off, e, hA, hb, he⟩ := hr.2.2.2.2 (by omega)
  refine ⟨b, off, e, hA, hb, fun i x hx => he i x ?_⟩
  have hi : i < k := by have := (List.getElem?_eq_some_iff.1 hx).1; rw [List.length_take] at this; omega
  rw [← hx, List.getElem?_take_of_lt hi]
/-- ints in a row of the call's own -/
theorem ints_own {w : World} {base : Nat} {v : Value} {l : List Int} (h : w.ownsRow base 3 1 v l.length (l.map (.int .i64))) (h64 : ∀ x ∈ l, I64 x) : OwnO (fun _ => False) base v l w :=
  OwnO.of (e := 3) ⟨⟨l.map (.int .i64), h, fun i x hx => ⟨[.int .i64 x], ⟨rfl, h64 x (List.mem_of_getElem? hx)⟩, fun j u hu => by
    cases j with
    | succ j => simp at hu
    | zero =>
      have hu' : Value.int .i64 x = u := by simpa using hu
      simp only [Rep.n, Nat.mul_one, Nat.add_zero]
      rw [List.getElem?_map, hx, ← hu']; rfl⟩⟩⟩
end Go.Proofs.YtkbfhgcjimfgkaaDoor
