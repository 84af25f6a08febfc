/- A growing slice of the call's own that reads as a list of data. No condition. -/
import Derived.Test.YtkbfhgcjimfgkaaDoorUp
import Derived.Test.YtkbfhgcjimfgkaaDoorReg3
import Derived.Test.YtkbfhgcjimfgkaaDoorCopyP
set_option linter.unusedVariables false
set_option linter.unusedSimpArgs false
namespace Go.Proofs.YtkbfhgcjimfgkaaDoor
open Go.RowKit

theorem Blk.set {w : World} {g T : Nat} {cs : Array Value} (h : Blk g (.cells cs T (0, 0)) w) (i : Nat) (v : Value) : Blk g (.cells (cs.setIfInBounds i v) T (0, 0)) (w.setCell ⟨g, i, none⟩ v) := by
  have hlt : g < w.heap.size := h.lt
  unfold Blk at h ⊢
  simp [World.setCell, Array.getElem?_modify, h]
theorem Blk.other {w : World} {g : Nat} {o : Obj} (h : Blk g o w) {p : Addr} (hp : p.block ≠ g) (v : Value) : Blk g o (w.setCell p v) := (Below.heap_setCell w p v g (fun e => hp e.symm)).trans h
theorem Blk.touch {w w' : World} {S : Nat → Prop} {g : Nat} {o : Obj} (h : Blk g o w) (ht : Touch S w w') (hs : ¬ S g) : Blk g o w' := (ht.block g h.lt hs).trans h
theorem Blk.grown {w w' : World} {r : Option Nat} {g : Nat} {o : Obj} (h : Blk g o w) (ht : w.grownBy w' r) (hs : some g ≠ r) : Blk g o w' := (ht.block g h.lt hs).trans h
theorem Blk.frozen {b : Nat} {cs : Array Value} {t : Nat} {W : World} (h : Blk b (.cells cs t (0, 0)) W) (i : Nat) : W.frozen? ⟨b, i, none⟩ = false := frozen_of_row _ _ _ _ _ h
section
variable {α : Type} [Rep α] {B : Nat} {W W' : World} {l : List α} {a : Option Addr} {n c : Nat}
theorem RdS.freshB (h : RdS (fun b => B ≤ b ∧ b < W.heap.size) W l a n c) (hE : Below W.heap.size W W') : RdS (fun b => B ≤ b ∧ b < W'.heap.size) W' l a n c :=
  h.mono fun b hb => ⟨⟨hb.1, Nat.lt_of_lt_of_le hb.2 hE.size⟩, hE.block b hb.2⟩
theorem RdS.freshG {r : Option Nat} (h : RdS (fun b => B ≤ b ∧ b < W.heap.size) W l a n c) (hE : W.grownBy W' r) (hr : ∀ k, r = some k → k < B) : RdS (fun b => B ≤ b ∧ b < W'.heap.size) W' l a n c :=
  h.mono fun b hb => ⟨⟨hb.1, Nat.lt_of_lt_of_le hb.2 hE.size⟩, hE.block b hb.2 fun e => by have := hr b e.symm; omega⟩
theorem RdS.freshT {S : Nat → Prop} (h : RdS (fun b => B ≤ b ∧ b < W.heap.size) W l a n c) (hE : Touch S W W') (hr : ∀ k, S k → k < B) : RdS (fun b => B ≤ b ∧ b < W'.heap.size) W' l a n c :=
  h.mono fun b hb => ⟨⟨hb.1, Nat.lt_of_lt_of_le hb.2 hE.size⟩, hE.block b hb.2 fun e => by have := hr b e; omega⟩
end
theorem Blk.set3 {w : World} {g T : Nat} {x y z : Value} (h : Blk g (.cells #[x, y, z] T (0, 0)) w) (x' y' z' : Value) : Blk g (.cells #[x', y', z'] T (0, 0)) (((w.setCell ⟨g, 0, none⟩ x').setCell ⟨g, 1, none⟩ y').setCell ⟨g, 2, none⟩ z') := ((h.set 0 x').set 1 y').set 2 z'
theorem touch1 {g i : Nat} {w : World} (x : Value) : Touch (fun b => b = g) w (w.setCell ⟨g, i, none⟩ x) := Touch.setCell (S := fun b => b = g) (Touch.refl _ _) (.inl rfl) _
theorem touch3 {g : Nat} {w : World} (x y z : Value) : Touch (fun b => b = g) w (((w.setCell ⟨g, 0, none⟩ x).setCell ⟨g, 1, none⟩ y).setCell ⟨g, 2, none⟩ z) := ((touch1 x).trans (touch1 y)).trans (touch1 z)
theorem abs_ret {P : Program} {fn : Func} {R : Ending → World → Prop} {ex : Exit} {a : Act} {W0 : World} (Q : World → Prop) (hQ : Q W0) (k : ∀ W, Q W → bodyPost P fn R ex a W) : bodyPost P fn R ex a W0 := k W0 hQ
/-- cells that read as a list -/
def Reads {α : Type} [Rep α] (A : Nat → Prop) (w : World) (l : List α) (xs : List Value) : Prop :=
  ∀ (i : Nat) (x : α), l[i]? = some x → ∃ ys, Rep.rd A w x ys ∧ ∀ (j : Nat) (u : Value), ys[j]? = some u → xs[i * Rep.n α + j]? = some u
theorem Reads.mono {α : Type} [Rep α] {A A' : Nat → Prop} {w w' : World} {l : List α} {xs : List Value} (h : Reads A w l xs) (hA : ∀ b, A b → A' b ∧ w'.heap[b]? = w.heap[b]?) : Reads A' w' l xs := by
  intro i x hi
  obtain ⟨ys, h1, h2⟩ := h i x hi
  exact ⟨ys, Rep.mono hA h1, h2⟩
/-- a slice of the call's own, in a row of its own; what its elements reach lies neither in the row nor in the blocks X -/
structure Own {α : Type} [Rep α] (X : Nat → Prop) (base e : Nat) (v : Value) (l : List α) (w : World) : Prop where
  row : ∃ xs, w.ownsRow base e (Rep.n α) v l.length xs ∧ Reads (fun b => b < w.heap.size ∧ ¬ X b ∧ v.ownBlock ≠ some b) w l xs
section
variable {α : Type} [Rep α] {X : Nat → Prop} {base e : Nat} {v : Value} {l : List α} {w w' : World}
theorem Own.nil : Own (α := α) X base e (.slice none 0 0) [] w := ⟨[], World.ownsRow_nil _ _ _ _, fun i x h => by simp at h⟩
theorem Own.rowlt (h : Own X base e v l w) : ∀ k, v.ownBlock = some k → base ≤ k ∧ k < w.heap.size := by
  obtain ⟨xs, h1, _⟩ := h.row
  exact h1.lt
theorem Own.form (h : Own X base e v l w) : ∃ a c, v = .slice a l.length c := by
  obtain ⟨xs, h1, _⟩ := h.row
  rcases h1.2 with ⟨hv, h0⟩ | ⟨g, cap, cur, hv, _⟩
  · exact ⟨none, 0, by rw [hv, h0]⟩
  · exact ⟨_, _, hv⟩
theorem Own.keep (h : Own X base e v l w) (hs : w.heap.size ≤ w'.heap.size) (hk : ∀ k, k < w.heap.size → (¬ X k ∨ v.ownBlock = some k) → w'.heap[k]? = w.heap[k]?) : Own X base e v l w' := by
  obtain ⟨xs, h1, h2⟩ := h.row
  refine ⟨xs, ⟨h1.1, ?_⟩, h2.mono fun b hb => ⟨⟨by omega, hb.2⟩, hk b hb.1 (.inl hb.2.1)⟩⟩
  rcases h1.2 with hn | ⟨g, cap, cur, hv, hb, hg, rest⟩
  · exact .inl hn
  · exact .inr ⟨g, cap, cur, hv, hb, (hk g (Array.getElem?_eq_some_iff.1 hg).1 (.inr (by rw [hv]; rfl))).trans hg, rest⟩
theorem Own.go (h : Own X base e v l w) (hb : Below w.heap.size w w') : Own X base e v l w' := h.keep hb.size fun k hk _ => hb.block k hk
theorem Own.touch {S : Nat → Prop} (h : Own X base e v l w) (ht : Touch S w w') (hS : ∀ k, k < w.heap.size → S k → X k ∧ v.ownBlock ≠ some k) : Own X base e v l w' :=
  h.keep ht.size fun k hk hx => ht.block k hk fun hs => by
    have := hS k hk hs
    rcases hx with hx | hx
    · exact hx this.1
    · exact this.2 hx
theorem Own.less {X' : Nat → Prop} (h : Own X base e v l w) (hX : ∀ k, X' k → X k) : Own X' base e v l w := by
  obtain ⟨xs, h1, h2⟩ := h.row
  exact ⟨xs, h1, h2.mono fun b hb => ⟨⟨hb.1, fun hx => hb.2.1 (hX b hx), hb.2.2⟩, rfl⟩⟩
theorem Own.low {base' : Nat} (h : Own X base e v l w) (hb : base' ≤ base) : Own X base' e v l w := by
  obtain ⟨xs, h1, h2⟩ := h.row
  refine ⟨xs, ⟨h1.1, ?_⟩, h2⟩
  rcases h1.2 with hn | ⟨g, cap, cur, hv, hb', rest⟩
  · exact .inl hn
  · exact .inr ⟨g, cap, cur, hv, by omega, rest⟩
theorem Own.more {X' : Nat → Prop} (h : Own X base e v l w) (hX : ∀ k, k < w.heap.size → X' k → X k) : Own X' base e v l w := by
  obtain ⟨xs, h1, h2⟩ := h.row
  exact ⟨xs, h1, h2.mono fun b hb => ⟨⟨hb.1, fun hx => hb.2.1 (hX b hb.1 hx), hb.2.2⟩, rfl⟩⟩
theorem Own.rd (h : Own X base e v l w) (hX : ∀ k, v.ownBlock = some k → ¬ X k) : ∃ a c, v = .slice a l.length c ∧ RdS (fun b => b < w.heap.size ∧ ¬ X b) w l a l.length c := by
  obtain ⟨xs, h1, h2⟩ := h.row
  obtain ⟨a, n, c, hv, hr⟩ := RdS.of_row (A := fun b => b < w.heap.size ∧ ¬ X b) h1 (fun b hb => ⟨(h1.lt b hb).2, hX b hb⟩) (h2.mono fun b hb => ⟨⟨hb.1, hb.2.1⟩, rfl⟩)
  have hn := hr.1
  subst hn
  exact ⟨a, c, hv, hr⟩
theorem Own.snoc {xs ys : List Value} {x : α} {g cap : Nat} {w1 : World} (hr : Reads (fun b => b < w.heap.size ∧ ¬ X b ∧ v.ownBlock ≠ some b) w l xs) (hl : xs.length = l.length * Rep.n α) (hx : Rep.rd (fun b => b < w.heap.size ∧ ¬ X b ∧ v.ownBlock ≠ some b) w x ys)
    (hown : w1.ownsRow base e (Rep.n α) (.slice (some ⟨g, 0, none⟩) (l.length + 1) cap) (l.length + 1) (xs ++ ys)) (hgrow : w.grownBy w1 v.ownBlock) (hat : v.ownBlock = some g ∨ g = w.heap.size) : Own X base e (.slice (some ⟨g, 0, none⟩) (l.length + 1) cap) (l ++ [x]) w1 := by
  have hA : ∀ b, (b < w.heap.size ∧ ¬ X b ∧ v.ownBlock ≠ some b) → (b < w1.heap.size ∧ ¬ X b ∧ (Value.slice (some ⟨g, 0, none⟩) (l.length + 1) cap).ownBlock ≠ some b) ∧ w1.heap[b]? = w.heap[b]? := by
    rintro b ⟨h1, h2, h3⟩
    refine ⟨⟨Nat.lt_of_lt_of_le h1 hgrow.size, h2, ?_⟩, hgrow.block b h1 (fun e => h3 e.symm)⟩
    show some g ≠ some b
    rcases hat with h | h
    · rw [← h]; exact h3
    · intro e; injection e with e; omega
  refine ⟨xs ++ ys, by simpa using hown, fun i y hi => ?_⟩
  by_cases hil : i < l.length
  · rw [List.getElem?_append_left hil] at hi
    obtain ⟨zs, h1, h2⟩ := hr i y hi
    refine ⟨zs, Rep.mono hA h1, fun j u hj => ?_⟩
    have h3 := h2 j u hj
    rw [List.getElem?_append_left (List.getElem?_eq_some_iff.1 h3).1]; exact h3
  · rw [List.getElem?_append_right (by omega)] at hi
    have hi0 : i = l.length := by
      have := (List.getElem?_eq_some_iff.1 hi).1
      simp at this; omega
    subst hi0
    simp at hi
    subst hi
    refine ⟨ys, Rep.mono hA hx, fun j u hj => ?_⟩
    rw [List.getElem?_append_right (by omega), hl, Nat.add_sub_cancel_left]
    exact hj
end
/-- a slice of the call's own as what reads -/
theorem Own.rdw {α : Type} [Rep α] {e : Nat} {v : Value} {l : List α} {w w' : World} (h : Own (· < w.heap.size) w.heap.size e v l w') : ∃ a c, v = .slice a l.length c ∧ RdS (· < w'.heap.size) w' l a l.length c := by
  obtain ⟨a, c, hv, hr⟩ := h.rd (fun k hk hx => by have := (h.rowlt k hk).1; have hx2 : k < w.heap.size := hx; omega)
  exact ⟨a, c, hv, hr.wide fun b hb => hb.1⟩
/-- append of one element to a slice of the call's own -/
theorem wpList_append_one {α : Type} [Rep α] {P : Program} {X : Nat → Prop} {w : World} {ops : Array Oper} {rest : List Oper} {o : Oper} {a : Act} {Q : Exit → Act → World → Prop} (hgd : o.guard = none) (s x : Operand) (t : TypeId)
    (ho : o.op = .call { callee := .builtin .append, args := #[s, x], argTypes := #[t, t] })
    (base : Nat) (e : TypeId) (i : TypeInfo) (z : Value) (bytes : Nat) (ht : P.underlying t = some (.slice e)) (hi : P.info? e = some i) (hz : i.zero = some z)
    (hsize : i.size = Rep.n α) (hby : i.bytes = bytes) (hzs : z.cells.size = Rep.n α)
    (v : Value) (l : List α) (hs : a.eval s = v) (hown : Own X base e v l w)
    (gb c tb : Nat) (ys : List Value) (y : α) (hx : a.eval x = .slice (some ⟨gb, 0, none⟩) 1 c) (hblk : Blk gb (.cells ys.toArray tb (0, 0)) w) (hy : Rep.rd (fun b => b < w.heap.size ∧ ¬ X b ∧ v.ownBlock ≠ some b) w y ys)
    (h63 : l.length + 1 ≤ maxLen) (hbytes : (l.length + 1) * bytes ≤ 140737488355328) (hbase : base ≤ w.heap.size)
    (h : ∀ g cap w', Own X base e (.slice (some ⟨g, 0, none⟩) (l.length + 1) cap) (l ++ [y]) w' → w.grownBy w' v.ownBlock → (v.ownBlock = some g ∨ g = w.heap.size) → g < w'.heap.size → wpList P ops Q rest (a.put o.dst (.slice (some ⟨g, 0, none⟩) (l.length + 1) cap)) w') : wpList P ops Q (o :: rest) a w := by
  obtain ⟨xs, h1, h2⟩ := hown.row
  have hyl := Rep.len hy
  refine wpList_append_lies w hgd s x t ho base e i z (Rep.n α) bytes ht hi hz hsize hby hzs Rep.pos v l.length xs hs h1 ⟨gb, 0, none⟩ 1 c ys hx (by omega) (news_at hblk) (Rep.one hy) (by omega) h63 hbytes hbase w.heap.size rfl ?_
  intro g cap w' hw hg hat hlt
  exact h g cap w' (Own.snoc h2 h1.1 hy hw hg hat) hg hat hlt
end Go.Proofs.YtkbfhgcjimfgkaaDoor
