/- What stays as a call goes on: words for worlds, blocks, and what reads as data. No condition. -/
import Derived.Test.YtkbfhgcjimfgkaaDoorAppLaw
import Derived.Test.YtkbfhgcjimfgkaaDoorCells
set_option linter.unusedVariables false
set_option linter.unusedSimpArgs false
namespace Go.Proofs.YtkbfhgcjimfgkaaDoor
open Go.RowKit

/-- block b is this -/
def Blk (b : Nat) (o : Obj) (W : World) : Prop := W.heap[b]? = some o
theorem Blk.lt {b : Nat} {o : Obj} {W : World} (h : Blk b o W) : b < W.heap.size := (Array.getElem?_eq_some_iff.1 h).1
theorem Blk.go {b : Nat} {o : Obj} {W W' : World} (h : Blk b o W) (hb : Below W.heap.size W W') : Blk b o W' := (hb.block b h.lt).trans h
theorem Blk.new (W : World) (o : Obj) : Blk W.heap.size o (W.alloc o) := heap_alloc_new W o
theorem Blk.at (W : World) (o : Obj) (b : Nat) (h : W.heap.size = b) : Blk b o (W.alloc o) := heap_new_at W o b h
theorem Blk.alloc {b : Nat} {o : Obj} {W : World} (h : Blk b o W) (o' : Obj) : Blk b o (W.alloc o') := h.go ((Below.refl _ _).alloc (Nat.le_refl _) _)
theorem Blk.drew {b : Nat} {o : Obj} {W : World} (h : Blk b o W) : Blk b o W.drew := h
theorem Blk.cell {b : Nat} {cs : Array Value} {t : Nat} {W : World} (h : Blk b (.cells cs t (0, 0)) W) (i : Nat) : W.cell? ⟨b, i, none⟩ = cs[i]? := cell_of_row _ _ _ _ _ _ h
theorem Good.go {W W' : World} (h : Good W) (hb : Below W.heap.size W W') : Good W' := h.below' hb
theorem up {a b c : World} (h : Below a.heap.size a b) (k : Below b.heap.size b c) : Below a.heap.size a c := h.trans (k.mono h.size)
theorem upper {B : Nat} {a b c : World} (h : Below B a b) (k : Below b.heap.size b c) (hB : B ≤ b.heap.size) : Below B a c := h.trans (k.mono hB)
theorem RdS.none' {α : Type} [Rep α] (W : World) : RdS (α := α) (· < W.heap.size) W [] none 0 0 := RdS.nil _ _
theorem abs_run {P : Program} {f : Nat} {vs : Array Value} {F : Ending → World → Prop} {W0 : World} (Q : World → Prop) (hQ : Q W0) (k : ∀ W, Q W → Calls P f vs W F) : Calls P f vs W0 F := k _ hQ

/-- a block of slices reads as the list of what they read as -/
theorem RdS.of_slices {α : Type} [Rep α] {W : World} {ls : List (List α)} {b t : Nat} {vs : List Value} (h : Blk b (.cells vs.toArray t (0, 0)) W) (hl : vs.length = ls.length) (hm : ls.length ≤ 1000000000)
    (hv : ∀ (i : Nat) (o : List α), ls[i]? = some o → ∃ (a : Option Addr) (n c : Nat), vs[i]? = some (Value.slice a n c) ∧ RdS (· < W.heap.size) W o a n c) : RdS (· < W.heap.size) W ls (some ⟨b, 0, none⟩) ls.length ls.length := by
  refine ⟨rfl, Nat.le_refl _, by unfold maxLen; omega, (fun h => by cases h), fun _ => ⟨b, 0, rfl, h.lt, h.lt, fun i o hi => ?_⟩⟩
  obtain ⟨a, n, c, hv1, hr⟩ := hv i o hi
  refine ⟨[.slice a n c], ⟨a, n, c, rfl, hr⟩, fun j u hu => ?_⟩
  have hj : j = 0 := by
    cases j with
    | zero => rfl
    | succ j => simp at hu
  subst hj
  simp at hu
  subst hu
  have e1 : 0 + i * Rep.n (List α) + 0 = i := by show 0 + i * 1 + 0 = i; omega
  rw [e1, h.cell i]
  simpa using hv1
theorem RdS.two {α : Type} [Rep α] {W : World} {o q : List α} {b t : Nat} {a1 a2 : Option Addr} {n1 c1 n2 c2 : Nat} (h : Blk b (.cells #[.slice a1 n1 c1, .slice a2 n2 c2] t (0, 0)) W) (h1 : RdS (· < W.heap.size) W o a1 n1 c1) (h2 : RdS (· < W.heap.size) W q a2 n2 c2) :
    RdS (· < W.heap.size) W [o, q] (some ⟨b, 0, none⟩) 2 2 := by
  refine RdS.of_slices (ls := [o, q]) (vs := [.slice a1 n1 c1, .slice a2 n2 c2]) h rfl (by simp) (fun i x hi => ?_)
  match i, hi with
  | 0, hi => simp at hi; subst hi; exact ⟨_, _, _, rfl, h1⟩
  | 1, hi => simp at hi; subst hi; exact ⟨_, _, _, rfl, h2⟩
  | i + 2, hi => simp at hi
end Go.Proofs.YtkbfhgcjimfgkaaDoor
