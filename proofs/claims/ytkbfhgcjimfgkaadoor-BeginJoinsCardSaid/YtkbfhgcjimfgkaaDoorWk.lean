/- A turn that is being made: its block, and five growing slices of its own. No condition. -/
import Derived.Test.YtkbfhgcjimfgkaaDoorNd
set_option linter.unusedVariables false
set_option linter.unusedSimpArgs false
namespace Go.Proofs.YtkbfhgcjimfgkaaDoor
open Go.RowKit

/-- the blocks that a turn writes -/
def Mine (g : Nat) (vs : Nat → Value) (z : Nat) : Prop := z = g ∨ ∃ i, i < 5 ∧ (vs i).ownBlock = some z
/-- what the elements of its slices must not lie in -/
def WX (base g : Nat) (vs : Nat → Value) (z : Nat) : Prop := z < base ∨ Mine g vs z
/-- memory that a turn does not write -/
def NM (g : Nat) (vs : Nat → Value) (w : World) (z : Nat) : Prop := z < w.heap.size ∧ ¬ Mine g vs z
def rowOk (base : Nat) (X : Nat → Prop) (t : Tn) (j : Nat) (v : Value) (w : World) : Prop := match j with
  | 0 => OwnO X base v t.node.sides w
  | 1 => OwnO X base v t.node.undo w
  | 2 => OwnO X base v t.node.marks w
  | 3 => OwnO X base v t.posts w
  | 4 => OwnO X base v t.recs w
  | _ => True
structure WkG (base g : Nat) (t : Tn) (us vs : Nat → Value) (w : World) : Prop where
  box : Blk g (.cells (tnCells t us) 82 (0, 0)) w
  rows : ∀ j, j < 5 → rowOk base (WX base g vs) t j (vs j) w
  gb : base ≤ g
  ne : ∀ i, i < 5 → ∀ z, (vs i).ownBlock = some z → z ≠ g
  di : ∀ i j, i < 5 → j < 5 → i ≠ j → ∀ z, (vs i).ownBlock = some z → (vs j).ownBlock ≠ some z
  fit : t.node.fits
  g2 : 2 ≤ base
abbrev WkM (base g : Nat) (t : Tn) (vs : Nat → Value) (w : World) : Prop := WkG base g t vs vs w
section
variable {base g j : Nat} {t : Tn} {us vs : Nat → Value} {v : Value} {w w' : World} {X X' : Nat → Prop}
theorem rowOk.lt (hj : j < 5) (h : rowOk base X t j v w) : ∀ k, v.ownBlock = some k → base ≤ k ∧ k < w.heap.size := by
  match j, hj with
  | 0, _ => exact OwnO.rowlt h
  | 1, _ => exact OwnO.rowlt h
  | 2, _ => exact OwnO.rowlt h
  | 3, _ => exact OwnO.rowlt h
  | 4, _ => exact OwnO.rowlt h
theorem rowOk.keep (h : rowOk base X t j v w) (hs : w.heap.size ≤ w'.heap.size) (hk : ∀ k, k < w.heap.size → (¬ X k ∨ v.ownBlock = some k) → w'.heap[k]? = w.heap[k]?) (hX : ∀ k, k < w.heap.size → X' k → X k ∨ v.ownBlock = some k) : rowOk base X' t j v w' := by
  have key : ∀ {α : Type} [Rep α] {l : List α}, OwnO X base v l w → OwnO X' base v l w' := by
    intro α _ l ho
    rcases ho.row with ⟨a, hv, hl, h2⟩ | ⟨q, off, cap, hv, h1, h2, h3, h4, h5, h6⟩
    · exact ⟨.inl ⟨a, hv, hl, fun k hk => ⟨(h2 k hk).1, Nat.lt_of_lt_of_le (h2 k hk).2 hs⟩⟩⟩
    · have hq := hk q h2 (.inr (by rw [hv]; rfl))
      refine ⟨.inr ⟨q, off, cap, hv, h1, Nat.lt_of_lt_of_le h2 hs, h3, h4, fun i hi => ?_, fun i x hx => ?_⟩⟩
      · obtain ⟨h7, h8⟩ := h5 i hi
        exact ⟨by rw [cell_keep hq]; exact h7, (World.frozen?_of_block (a := ⟨q, off + i, none⟩) hq).trans h8⟩
      · obtain ⟨xs, r1, r2⟩ := h6 i x hx
        refine ⟨xs, Rep.mono (fun b hb => ⟨⟨Nat.lt_of_lt_of_le hb.1 hs, fun hx' => ?_, hb.2.2⟩, hk b hb.1 (.inl hb.2.1)⟩) r1, fun i u hu => (cell_keep hq).trans (r2 i u hu)⟩
        rcases hX b hb.1 hx' with h9 | h9
        · exact hb.2.1 h9
        · rw [hv] at h9
          exact hb.2.2 (by simpa [Value.ownBlock] using h9.symm)
  match j with
  | 0 => exact key h
  | 1 => exact key h
  | 2 => exact key h
  | 3 => exact key h
  | 4 => exact key h
  | j + 5 => trivial
theorem WkG.lt (h : WkG base g t us vs w) : g < w.heap.size := h.box.lt
theorem WkG.mine (h : WkG base g t us vs w) : ∀ z, Mine g vs z → base ≤ z ∧ z < w.heap.size := by
  rintro z (rfl | ⟨i, hi, hz⟩)
  · exact ⟨h.gb, h.lt⟩
  · exact rowOk.lt hi (h.rows i hi) z hz
/-- other memory grows, or is written -/
theorem WkG.keep (h : WkG base g t us vs w) (hs : w.heap.size ≤ w'.heap.size) (hk : ∀ k, k < w.heap.size → base ≤ k → w'.heap[k]? = w.heap[k]?) : WkG base g t us vs w' :=
  ⟨(hk g h.lt h.gb).trans h.box, fun j hj => (h.rows j hj).keep hs (fun k hk' hx => hk k hk' (by
    rcases hx with hx | hx
    · exact Nat.le_of_not_lt fun hlt => hx (.inl hlt)
    · exact (rowOk.lt hj (h.rows j hj) k hx).1)) (fun k _ hx => .inl hx), h.gb, h.ne, h.di, h.fit, h.g2⟩
theorem WkG.go (h : WkG base g t us vs w) (hb : Below w.heap.size w w') : WkG base g t us vs w' := h.keep hb.size fun k hk _ => hb.block k hk
/-- one of the rows grew, or was written, or another one took its place -/
theorem WkG.grow {t' : Tn} {v' : Value} (h : WkG base g t us vs w) (hj : j < 5) (hg : w.grownBy w' (vs j).ownBlock) (hv : ∀ k, v'.ownBlock = some k → (vs j).ownBlock = some k ∨ w.heap.size ≤ k) (hn : rowOk base (WX base g vs) t' j v' w')
    (hr : ∀ i, i ≠ j → ∀ X v W, rowOk base X t i v W → rowOk base X t' i v W) (hc : tnCells t' us = tnCells t us) (hf : t'.node.fits) : WkG base g t' us (fun q => if q = j then v' else vs q) w' := by
  have hlt := h.lt
  have hX : ∀ k, k < w.heap.size → WX base g (fun q => if q = j then v' else vs q) k → WX base g vs k := by
    rintro k hk (h1 | h1 | ⟨i, hi, h1⟩)
    · exact .inl h1
    · exact .inr (.inl h1)
    · by_cases e : i = j
      · subst e
        simp only [if_true] at h1
        rcases hv k h1 with h2 | h2
        · exact .inr (.inr ⟨i, hi, h2⟩)
        · omega
      · simp only [if_neg e] at h1
        exact .inr (.inr ⟨i, hi, h1⟩)
  refine ⟨?_, fun i hi => ?_, h.gb, fun i hi z hz => ?_, fun i k hi hk hik z hz e => ?_, hf, h.g2⟩
  · rw [hc]
    exact h.box.grown hg (fun e => h.ne j hj g e.symm rfl)
  · by_cases e : i = j
    · subst e
      simp only [if_true]
      refine hn.keep (Nat.le_refl _) (fun _ _ _ => rfl) (fun k hk hx => ?_)
      rcases hx with h1 | h1 | ⟨q, hq, h1⟩
      · exact .inl (.inl h1)
      · exact .inl (.inr (.inl h1))
      · by_cases e : q = i
        · subst e
          simp only [if_true] at h1
          exact .inr h1
        · simp only [if_neg e] at h1
          exact .inl (.inr (.inr ⟨q, hq, h1⟩))
    · simp only [if_neg e]
      refine (hr i e _ _ _ (h.rows i hi)).keep hg.size (fun k hk hx => hg.block k hk fun e' => ?_) (fun k hk hx => .inl (hX k hk hx))
      rcases hx with hx | hx
      · exact hx (.inr (.inr ⟨j, hj, e'.symm⟩))
      · exact h.di i j hi hj e k hx e'.symm
  · by_cases e : i = j
    · subst e
      simp only [if_true] at hz
      rcases hv z hz with e' | e'
      · exact h.ne i hi z e'
      · omega
    · simp only [if_neg e] at hz
      exact h.ne i hi z hz
  · by_cases e1 : i = j
    · subst e1
      have e2 : k ≠ i := fun e' => hik e'.symm
      simp only [if_true] at hz
      simp only [if_neg e2] at e
      rcases hv z hz with e' | e'
      · exact h.di i k hi hk hik z e' e
      · have := (rowOk.lt hk (h.rows k hk) z e).2; omega
    · simp only [if_neg e1] at hz
      by_cases e2 : k = j
      · subst e2
        simp only [if_true] at e
        rcases hv z e with e' | e'
        · exact h.di i k hi hk e1 z hz e'
        · have := (rowOk.lt hi (h.rows i hi) z hz).2; omega
      · simp only [if_neg e2] at e
        exact h.di i k hi hk hik z hz e
/-- a store into the block -/
theorem WkG.put {t' : Tn} {us' : Nat → Value} (h : WkG base g t us vs w) (ht : Touch (fun z => z = g) w w') (hb : Blk g (.cells (tnCells t' us') 82 (0, 0)) w') (hr : ∀ i X v W, rowOk base X t i v W → rowOk base X t' i v W) (hf : t'.node.fits) : WkG base g t' us' vs w' :=
  ⟨hb, fun j hj => (hr j _ _ _ (h.rows j hj)).keep ht.size (fun k hk hx => ht.block k hk fun e => by
    subst e
    rcases hx with hx | hx
    · exact hx (.inr (.inl rfl))
    · exact h.ne j hj k hx rfl) (fun k _ hx => .inl hx), h.gb, h.ne, h.di, hf, h.g2⟩
end
/-- what a step of a turn leaves: the turn, in memory that was its own or is new -/
def WkS (base g : Nat) (t' : Tn) (vs : Nat → Value) (w w' : World) : Prop := ∃ vs', WkM base g t' vs' w' ∧ Touch (Mine g vs) w w' ∧ ∀ z, Mine g vs' z → Mine g vs z ∨ w.heap.size ≤ z
section
variable {base g : Nat} {t t' : Tn} {vs vs' : Nat → Value} {w w' w2 : World}
theorem WkM.stay (h : WkM base g t vs w) : WkS base g t vs w w := ⟨vs, h, Touch.refl _ _, fun _ h => .inl h⟩
theorem WkM.stayB (h : WkM base g t vs w) (hb : Below w.heap.size w w') : WkS base g t vs w w' := ⟨vs, h.go hb, ⟨hb.os, hb.tape, hb.output, hb.size, fun k hk _ => hb.block k hk⟩, fun _ h => .inl h⟩
theorem Good.wk (hg : Good w) (h : WkM base g t vs w) (ht : Touch (Mine g vs) w w') : Good w' :=
  hg.keep ht.size fun b hb => ht.block b (by have := h.gb; have := h.g2; have := h.lt; omega) (fun hm => by have := (h.mine b hm).1; have := h.g2; omega)
/-- what reads goes on reading -/
theorem RdS.wk {α : Type} [Rep α] {l : List α} {a : Option Addr} {n c : Nat} (h : RdS (NM g vs w) w l a n c) (ht : Touch (Mine g vs) w w') (hm : ∀ z, Mine g vs' z → Mine g vs z ∨ w.heap.size ≤ z) : RdS (NM g vs' w') w' l a n c :=
  h.mono fun z hz => ⟨⟨Nat.lt_of_lt_of_le hz.1 ht.size, fun h' => by
    rcases hm z h' with h1 | h1
    · exact hz.2 h1
    · have := hz.1; omega⟩, ht.block z hz.1 hz.2⟩
theorem Touch.down {S : Nat → Prop} {B : Nat} (ht : Touch S w w') (hB : B ≤ w.heap.size) (hS : ∀ z, S z → B ≤ z) : Below B w w' := ht.toBelow hB (fun z hz => hS z hz)
theorem WkS.trans (ht : Touch (Mine g vs) w w') (hm : ∀ z, Mine g vs' z → Mine g vs z ∨ w.heap.size ≤ z) (h2 : WkS base g t' vs' w' w2) : WkS base g t' vs w w2 := by
  obtain ⟨vs3, k1, k2, k3⟩ := h2
  refine ⟨vs3, k1, ⟨k2.os.trans ht.os, k2.tape.trans ht.tape, k2.output.trans ht.output, Nat.le_trans ht.size k2.size, fun k hk hn => ?_⟩, fun z hz => ?_⟩
  · refine (k2.block k (Nat.lt_of_lt_of_le hk ht.size) fun h' => ?_).trans (ht.block k hk hn)
    rcases hm k h' with h1 | h1
    · exact hn h1
    · omega
  · rcases k3 z hz with h1 | h1
    · exact hm z h1
    · exact .inr (Nat.le_trans ht.size h1)
end
end Go.Proofs.YtkbfhgcjimfgkaaDoor
