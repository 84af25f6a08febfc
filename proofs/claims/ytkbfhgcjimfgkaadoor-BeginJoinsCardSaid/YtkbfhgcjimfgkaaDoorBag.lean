/- A struct of the call's own whose first field is a slice of parts of the call's own: what mason, builder are made of. No condition. -/
import Derived.Test.YtkbfhgcjimfgkaaDoorBase
import Derived.OwnWalk
import Derived.WalkSmall
import Derived.Lib.Hide
set_option linter.unusedVariables false
set_option linter.unusedSimpArgs false
namespace Go.Proofs.YtkbfhgcjimfgkaaDoor
open Go.RowKit

def partCells (p : Part) : List Value := [.int .i64 p.kind, .int .i64 p.n, .string p.text]
def flat (l : Op) : List Value := l.flatMap partCells
theorem flat_len (l : Op) : (flat l).length = l.length * 3 := by
  induction l with
  | nil => rfl
  | cons p l ih => simp only [flat, List.flatMap_cons, List.length_append, List.length_cons] at ih ⊢; rw [ih]; simp [partCells]; omega
theorem flat_append (a b : Op) : flat (a ++ b) = flat a ++ flat b := by simp [flat]
theorem flat_one (p : Part) : flat [p] = partCells p := by simp [flat]
theorem flat_at (l : Op) (i : Nat) (p : Part) (h : l[i]? = some p) : (flat l)[i * 3]? = some (.int .i64 p.kind) ∧ (flat l)[i * 3 + 1]? = some (.int .i64 p.n) ∧ (flat l)[i * 3 + 2]? = some (.string p.text) := by
  induction l generalizing i with
  | nil => simp at h
  | cons q l ih =>
    cases i with
    | zero => simp at h; subst h; simp [flat, partCells]
    | succ i =>
      simp at h
      obtain ⟨h1, h2, h3⟩ := ih i h
      have e : flat (q :: l) = partCells q ++ flat l := by simp [flat]
      rw [e]
      have e2 : (partCells q).length = 3 := rfl
      refine ⟨?_, ?_, ?_⟩
      · rw [List.getElem?_append_right (by rw [e2]; omega), e2, show (i + 1) * 3 - 3 = i * 3 from by omega]; exact h1
      · rw [List.getElem?_append_right (by rw [e2]; omega), e2, show (i + 1) * 3 + 1 - 3 = i * 3 + 1 from by omega]; exact h2
      · rw [List.getElem?_append_right (by rw [e2]; omega), e2, show (i + 1) * 3 + 2 - 3 = i * 3 + 2 from by omega]; exact h3
theorem flat_snoc (p : Part) (r : List Part) : flat (p :: r).reverse = flat r.reverse ++ partCells p := by rw [List.reverse_cons, flat_append, flat_one]
theorem flat_set (p q : Part) (r : List Part) (hk : p.kind = q.kind) : ((flat (q :: r).reverse).set (r.length * 3 + 1) (.int .i64 p.n)).set (r.length * 3 + 2) (.string p.text) = flat (p :: r).reverse := by
  rw [flat_snoc, flat_snoc, List.set_append_right _ _ (by rw [flat_len]; simp), List.set_append_right _ _ (by rw [flat_len]; simp), flat_len]
  simp [partCells, hk]
theorem flat_one' (l : Op) : ∀ v ∈ flat l, v.oneCell' = true := by
  intro v hv
  simp only [flat, List.mem_flatMap] at hv
  obtain ⟨p, _, hp⟩ := hv
  simp only [partCells, List.mem_cons, List.not_mem_nil, or_false] at hp
  rcases hp with rfl | rfl | rfl <;> rfl

theorem ownsRow_drewN {w : World} {B e size n : Nat} {v : Value} {xs : List Value} (h : w.ownsRow B e size v n xs) (k : Nat) : (w.drewN k).ownsRow B e size v n xs := h
theorem ownsRow_drew {w : World} {B e size n : Nat} {v : Value} {xs : List Value} (h : w.ownsRow B e size v n xs) : w.drew.ownsRow B e size v n xs := h
theorem heap_new_at (w : World) (o : Obj) (H : Nat) (h : w.heap.size = H) : (w.alloc o).heap[H]? = some o := by subst h; exact heap_alloc_new w o
theorem news_at {w : World} {H t : Nat} {l : List Value} (h : w.heap[H]? = some (.cells l.toArray t (0, 0))) : ∀ j u, l[j]? = some u → w.cell? ((⟨H, 0, none⟩ : Addr).add j) = some u := by
  intro j u hu
  have e : (⟨H, 0, none⟩ : Addr).add j = ⟨H, j, none⟩ := by
    unfold Addr.add
    split
    · rename_i h0; rw [h0]
    · simp
  rw [e, cell_of_row w H j _ t (0, 0) h]
  simpa using hu

/-- only the blocks of S, and new ones, have turned -/
structure Touch (S : Nat → Prop) (w w' : World) : Prop where
  os : w'.os = w.os
  tape : w'.tape = w.tape
  output : w'.output = w.output
  size : w.heap.size ≤ w'.heap.size
  block : ∀ k, k < w.heap.size → ¬ S k → w'.heap[k]? = w.heap[k]?
theorem Touch.refl (S : Nat → Prop) (w : World) : Touch S w w := ⟨rfl, rfl, rfl, Nat.le_refl _, fun _ _ _ => rfl⟩
theorem Touch.trans {S : Nat → Prop} {a b c : World} (h : Touch S a b) (k : Touch S b c) : Touch S a c :=
  ⟨k.os.trans h.os, k.tape.trans h.tape, k.output.trans h.output, Nat.le_trans h.size k.size, fun i hi hs => (k.block i (Nat.lt_of_lt_of_le hi h.size) hs).trans (h.block i hi hs)⟩
theorem Touch.mono {S S' : Nat → Prop} {a b : World} (h : Touch S a b) (hs : ∀ k, k < a.heap.size → S k → S' k) : Touch S' a b :=
  ⟨h.os, h.tape, h.output, h.size, fun i hi hn => h.block i hi (fun hh => hn (hs i hi hh))⟩
/-- two steps of different reach: what the second one touches was touched by the first, or is new -/
theorem Touch.then_ {S S' : Nat → Prop} {a b c : World} (h : Touch S a b) (k : Touch S' b c) (hs : ∀ i, i < a.heap.size → S' i → S i) : Touch S a c :=
  ⟨k.os.trans h.os, k.tape.trans h.tape, k.output.trans h.output, Nat.le_trans h.size k.size, fun i hi hn => (k.block i (Nat.lt_of_lt_of_le hi h.size) (fun hh => hn (hs i hi hh))).trans (h.block i hi hn)⟩
theorem Touch.drew {S : Nat → Prop} {a w : World} (h : Touch S a w) : Touch S a w.drew := ⟨h.os, h.tape, h.output, h.size, h.block⟩
theorem Touch.drewN {S : Nat → Prop} {a w : World} (h : Touch S a w) (n : Nat) : Touch S a (w.drewN n) := ⟨h.os, h.tape, h.output, h.size, h.block⟩
theorem Touch.alloc {S : Nat → Prop} {a w : World} (h : Touch S a w) (o : Obj) : Touch S a (w.alloc o) :=
  ⟨h.os, h.tape, h.output, Nat.le_trans h.size (by simp), fun i hi hs => (Below.heap_alloc w o i (Nat.lt_of_lt_of_le hi h.size)).trans (h.block i hi hs)⟩
theorem Touch.setCell {S : Nat → Prop} {a w : World} (h : Touch S a w) {p : Addr} (hp : S p.block ∨ a.heap.size ≤ p.block) (u : Value) : Touch S a (w.setCell p u) :=
  ⟨h.os, h.tape, h.output, by simpa [World.setCell] using h.size, fun i hi hs => (Below.heap_setCell w p u i (by
    rintro rfl
    rcases hp with hp | hp
    · exact hs hp
    · omega)).trans (h.block i hi hs)⟩
theorem Touch.grown {S : Nat → Prop} {a w w' : World} {row : Option Nat} (h : Touch S a w) (hg : w.grownBy w' row) (hr : ∀ k, row = some k → S k ∨ a.heap.size ≤ k) : Touch S a w' :=
  ⟨hg.os.trans h.os, hg.tape.trans h.tape, hg.output.trans h.output, Nat.le_trans h.size hg.size, fun i hi hs => (hg.block i (Nat.lt_of_lt_of_le hi h.size) (fun e => by
    rcases hr i e.symm with hh | hh
    · exact hs hh
    · omega)).trans (h.block i hi hs)⟩
theorem Touch.below {S : Nat → Prop} {a w w' : World} {B : Nat} (h : Touch S a w) (hb : Below B w w') (hB : a.heap.size ≤ B) : Touch S a w' :=
  ⟨hb.os.trans h.os, hb.tape.trans h.tape, hb.output.trans h.output, Nat.le_trans h.size hb.size, fun i hi hs => (hb.block i (by omega)).trans (h.block i hi hs)⟩
theorem Touch.toBelow {S : Nat → Prop} {w w' : World} {B : Nat} (h : Touch S w w') (hB : B ≤ w.heap.size) (hs : ∀ k, S k → B ≤ k) : Below B w w' :=
  ⟨h.os, h.tape, h.output, h.size, fun k hk => h.block k (by omega) (fun hh => by have := hs k hh; omega)⟩
theorem Touch.of_below {S : Nat → Prop} {w w' : World} (h : Below w.heap.size w w') : Touch S w w' := ⟨h.os, h.tape, h.output, h.size, fun k hk _ => h.block k hk⟩
theorem Touch.cell {S : Nat → Prop} {w w' : World} (h : Touch S w w') {b o : Nat} (hb : b < w.heap.size) (hs : ¬ S b) : w'.cell? ⟨b, o, none⟩ = w.cell? ⟨b, o, none⟩ := cell_keep (h.block b hb hs)

/-- Block b is a struct of the call's own: a slice v of parts of the call's own, and the cells ex. -/
structure Bag (T : TypeId) (B b : Nat) (v : Value) (ex : List Value) (l : Op) (w : World) : Prop where
  base : B ≤ b
  blk : w.heap[b]? = some (.cells (v :: ex).toArray T (0, 0))
  own : w.ownsRow B 53 3 v l.length (flat l)
  ne : v.ownBlock ≠ some b
def Bag.S (b : Nat) (v : Value) : Nat → Prop := fun k => k = b ∨ v.ownBlock = some k

section
variable {T : TypeId} {B b : Nat} {v : Value} {ex : List Value} {l : Op} {w w' : World}
theorem Bag.lt (h : Bag T B b v ex l w) : b < w.heap.size := (Array.getElem?_eq_some_iff.1 h.blk).1
theorem Bag.cell (h : Bag T B b v ex l w) (i : Nat) : w.cell? ⟨b, i, none⟩ = (v :: ex)[i]? := by
  rw [cell_of_row w b i _ T (0, 0) h.blk]; simp
theorem Bag.frozen (h : Bag T B b v ex l w) (i : Nat) : w.frozen? ⟨b, i, none⟩ = false := frozen_of_row w b i _ T h.blk
theorem Bag.form (h : Bag T B b v ex l w) : ∃ a c, v = .slice a l.length c := by
  rcases h.own.2 with ⟨hv, h0⟩ | ⟨g, cap, cur, hv, _⟩
  · exact ⟨none, 0, by rw [hv, h0]⟩
  · exact ⟨_, _, hv⟩
theorem Bag.rowlt (h : Bag T B b v ex l w) : ∀ k, v.ownBlock = some k → B ≤ k ∧ k < w.heap.size := h.own.lt
theorem Bag.keep (h : Bag T B b v ex l w) (hk : ∀ k, (k = b ∨ v.ownBlock = some k) → w'.heap[k]? = w.heap[k]?) : Bag T B b v ex l w' := by
  refine ⟨h.base, (hk b (.inl rfl)).trans h.blk, ?_, h.ne⟩
  refine ⟨h.own.1, ?_⟩
  rcases h.own.2 with hn | ⟨g, cap, cur, hv, hb, hg, rest⟩
  · exact .inl hn
  · exact .inr ⟨g, cap, cur, hv, hb, (hk g (.inr (by rw [hv]; rfl))).trans hg, rest⟩
theorem Bag.below (h : Bag T B b v ex l w) (hb : Below w.heap.size w w') : Bag T B b v ex l w' := h.keep fun k hk => hb.block k (by
  rcases hk with rfl | hk
  · exact h.lt
  · exact (h.rowlt k hk).2)
theorem Bag.touch {S : Nat → Prop} (h : Bag T B b v ex l w) (ht : Touch S w w') (hs : ∀ k, (k = b ∨ v.ownBlock = some k) → ¬ S k) : Bag T B b v ex l w' := h.keep fun k hk => ht.block k (by
  rcases hk with rfl | hk
  · exact h.lt
  · exact (h.rowlt k hk).2) (hs k hk)
theorem Bag.alloc (h : Bag T B b v ex l w) (o : Obj) : Bag T B b v ex l (w.alloc o) := h.below ((Below.refl _ _).alloc (Nat.le_refl _) _)
/-- the slice in it is another one now -/
theorem Bag.put {v' : Value} {l' : Op} (hB : B ≤ b) (hb : w.heap[b]? = some (.cells (v :: ex).toArray T (0, 0))) (hown : w.ownsRow B 53 3 v' l'.length (flat l')) (hT : T ≠ 53) :
    Bag T B b v' ex l' (w.setCell ⟨b, 0, none⟩ v') := by
  have hne : v'.ownBlock ≠ some b := by
    rcases hown.2 with ⟨hv, _⟩ | ⟨g, cap, cur, hv, _, hg, _⟩
    · rw [hv]; simp [Value.ownBlock]
    · rw [hv]; simp only [Value.ownBlock]; intro e
      have e2 : g = b := by injection e
      rw [e2, hb] at hg
      injection hg with hg
      injection hg with _ ht
      exact hT ht
  refine ⟨hB, ?_, ?_, hne⟩
  · simp [World.setCell, Array.getElem?_modify, hb]
  · exact hown.kept (row := some b) ⟨rfl, rfl, rfl, by simp [World.setCell], fun k _ hk => Below.heap_setCell _ _ _ _ (fun e => hk (by simp [e]))⟩ (.inr hne)
theorem ownsRow_cut {w : World} {B e size : Nat} {a : Option Addr} {n c : Nat} {xs : List Value} (h : w.ownsRow B e size (.slice a n c) n xs) (m : Nat) (hm : m < n) : w.ownsRow B e size (.slice a m c) m (xs.take (m * size)) := by
  rcases h.2 with ⟨_, h0⟩ | ⟨g, cap, cur, hv, hg, hh, hnc, hcm, hcs, ht⟩
  · omega
  · have hle : m * size ≤ n * size := Nat.mul_le_mul_right _ (by omega)
    injection hv with hv1 hv2 hv3
    subst hv1 hv3
    refine ⟨by rw [List.length_take, h.1]; omega, .inr ⟨g, c, cur, rfl, hg, hh, by omega, hcm, hcs, ?_⟩⟩
    rw [← ht, List.take_take, Nat.min_eq_left hle]
theorem flat_take (l r : Op) : (flat (l ++ r)).take (l.length * 3) = flat l := by
  rw [flat_append, ← flat_len, List.take_left]
/-- the last part -/
theorem Bag.last {q : Part} {r : List Part} {a : Option Addr} {n c : Nat} (h : Bag T B b v ex (q :: r).reverse w) (hv : v = .slice a n c) :
    ∃ g, a = some ⟨g, 0, none⟩ ∧ v.ownBlock = some g ∧ w.cell? ⟨g, r.length * 3, none⟩ = some (.int .i64 q.kind) ∧ w.cell? ⟨g, r.length * 3 + 1, none⟩ = some (.int .i64 q.n) ∧ w.cell? ⟨g, r.length * 3 + 2, none⟩ = some (.string q.text) := by
  have hown := h.own
  have hq := flat_at (q :: r).reverse r.length q (by simp)
  simp only [List.length_reverse, List.length_cons] at hown
  rcases hown.2 with ⟨_, h0⟩ | ⟨g, cap, cur, hv2, _⟩
  · omega
  · rw [hv2] at hown hv
    injection hv with h1 h2 h3
    refine ⟨g, h1.symm, by rw [hv2]; rfl, ?_, ?_, ?_⟩
    · rw [hown.cellAt _ (by omega)]; exact hq.1
    · rw [hown.cellAt _ (by omega)]; exact hq.2.1
    · rw [hown.cellAt _ (by omega)]; exact hq.2.2
theorem Bag.rd (h : Bag T B b v ex l w) (hp : ∀ p ∈ l, I64 p.kind ∧ I64 p.n ∧ p.text.size ≤ strMax) {A : Nat → Prop} (hA : ∀ k, v.ownBlock = some k → A k) : ∃ a c, v = .slice a l.length c ∧ RdS A w l a l.length c := by
  obtain ⟨a, n, c, hv, hr⟩ := RdS.of_row (α := Part) h.own hA (fun i x hx => ⟨partCells x, ⟨rfl, hp x (List.mem_of_getElem? hx)⟩, fun j u hu => by
    obtain ⟨h1, h2, h3⟩ := flat_at l i x hx
    simp only [Rep.n]
    match j, hu with
    | 0, hu => simp [partCells] at hu; rw [← hu]; exact h1
    | 1, hu => simp [partCells] at hu; rw [← hu]; exact h2
    | 2, hu => simp [partCells] at hu; rw [← hu]; exact h3⟩)
  have hn := hr.1
  subst hn
  exact ⟨a, c, hv, hr⟩
end
end Go.Proofs.YtkbfhgcjimfgkaaDoor
