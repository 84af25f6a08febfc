/- The walks of (*node.work).node and post. -/
import Derived.Test.YtkbfhgcjimfgkaaDoorPartB2
import Derived.Test.YtkbfhgcjimfgkaaDoorPartA8
set_option linter.unusedVariables false
set_option linter.unusedSimpArgs false
set_option linter.unusedSimpArgs false
namespace Go.Proofs.YtkbfhgcjimfgkaaDoor
open Go.RowKit
/-- the blocks that a turn writes -/
def Mine (g : Nat) (vs : Nat → Value) (z : Nat) : Prop := z = g ∨ ∃ i, i < 5 ∧ (vs i).ownBlock = some z
/-- what the elements of its slices must not lie in -/
def WX (base g : Nat) (vs : Nat → Value) (z : Nat) : Prop := z < base ∨ Mine g vs z
/-- memory that a turn does not write -/
def NM (g : Nat) (vs : Nat → Value) (w : World) (z : Nat) : Prop := z < w.heap.size ∧ ¬ Mine g vs z
def rowOk (base : Nat) (X : Nat → Prop) (t : Tn) (j : Nat) (v : Value) (w : World) : Prop := match j with
  | 0 => OwnO X base v t.node.sides w
  | 1 => OwnO X base v t.node.undo w
  | 2 => OwnO X base v t.node.marks w
  | 3 => OwnO X base v t.posts w
  | 4 => OwnO X base v t.recs w
  | _ => True
structure WkG (base g : Nat) (t : Tn) (us vs : Nat → Value) (w : World) : Prop where
  box : Blk g (.cells (tnCells t us) 82 (0, 0)) w
  rows : ∀ j, j < 5 → rowOk base (WX base g vs) t j (vs j) w
  gb : base ≤ g
  ne : ∀ i, i < 5 → ∀ z, (vs i).ownBlock = some z → z ≠ g
  di : ∀ i j, i < 5 → j < 5 → i ≠ j → ∀ z, (vs i).ownBlock = some z → (vs j).ownBlock ≠ some z
  fit : t.node.fits
  g2 : 2 ≤ base
abbrev WkM (base g : Nat) (t : Tn) (vs : Nat → Value) (w : World) : Prop := WkG base g t vs vs w
section
variable {base g j : Nat} {t : Tn} {us vs : Nat → Value} {v : Value} {w w' : World} {X X' : Nat → Prop}
theorem rowOk.lt (hj : j < 5) (h : rowOk base X t j v w) : ∀ k, v.ownBlock = some k → base ≤ k ∧ k < w.heap.size := by
  match j, hj with
  | 0, _ => exact OwnO.rowlt h
  | 1, _ => exact OwnO.rowlt h
  | 2, _ => exact OwnO.rowlt h
  | 3, _ => exact OwnO.rowlt h
  | 4, _ => exact OwnO.rowlt h
theorem rowOk.keep (h : rowOk base X t j v w) (hs : w.heap.size ≤ w'.heap.size) (hk : ∀ k, k < w.heap.size → (¬ X k ∨ v.ownBlock = some k) → w'.heap[k]? = w.heap[k]?) (hX : ∀ k, k < w.heap.size → X' k → X k ∨ v.ownBlock = some k) : rowOk base X' t j v w' := by
  have key : ∀ {α : Type} [Rep α] {l : List α}, OwnO X base v l w → OwnO X' base v l w' := by
    intro α _ l ho
    rcases ho.row with ⟨a, hv, hl, h2⟩ | ⟨q, off, cap, hv, h1, h2, h3, h4, h5, h6⟩
    · exact ⟨.inl ⟨a, hv, hl, fun k hk => ⟨(h2 k hk).1, Nat.lt_of_lt_of_le (h2 k hk).2 hs⟩⟩⟩
    · have hq := hk q h2 (.inr (by rw [hv]; rfl))
      refine ⟨.inr ⟨q, off, cap, hv, h1, Nat.lt_of_lt_of_le h2 hs, h3, h4, fun i hi => ?_, fun i x hx => ?_⟩⟩
      · obtain ⟨h7, h8⟩ := h5 i hi
        exact ⟨by rw [cell_keep hq]; exact h7, (World.frozen?_of_block (a := ⟨q, off + i, none⟩) hq).trans h8⟩
      · obtain ⟨xs, r1, r2⟩ := h6 i x hx
        refine ⟨xs, Rep.mono (fun b hb => ⟨⟨Nat.lt_of_lt_of_le hb.1 hs, fun hx' => ?_, hb.2.2⟩, hk b hb.1 (.inl hb.2.1)⟩) r1, fun i u hu => (cell_keep hq).trans (r2 i u hu)⟩
        rcases hX b hb.1 hx' with h9 | h9
        · exact hb.2.1 h9
        · rw [hv] at h9
          exact hb.2.2 (by simpa [Value.ownBlock] using h9.symm)
  match j with
  | 0 => exact key h
  | 1 => exact key h
  | 2 => exact key h
  | 3 => exact key h
  | 4 => exact key h
  | j + 5 => trivial
theorem WkG.lt (h : WkG base g t us vs w) : g < w.heap.size := h.box.lt
theorem WkG.mine (h : WkG base g t us vs w) : ∀ z, Mine g vs z → base ≤ z ∧ z < w.heap.size := by
  rintro z (rfl | ⟨i, hi, hz⟩)
  · exact ⟨h.gb, h.lt⟩
  · exact rowOk.lt hi (h.rows i hi) z hz
/-- other memory grows, or is written -/
theorem WkG.keep (h : WkG base g t us vs w) (hs : w.heap.size ≤ w'.heap.size) (hk : ∀ k, k < w.heap.size → base ≤ k → w'.heap[k]? = w.heap[k]?) : WkG base g t us vs w' :=
  ⟨(hk g h.lt h.gb).trans h.box, fun j hj => (h.rows j hj).keep hs (fun k hk' hx => hk k hk' (by
    rcases hx with hx | hx
    · exact Nat.le_of_not_lt fun hlt => hx (.inl hlt)
    · exact (rowOk.lt hj (h.rows j hj) k hx).1)) (fun k _ hx => .inl hx), h.gb, h.ne, h.di, h.fit, h.g2⟩
theorem WkG.go (h : WkG base g t us vs w) (hb : Below w.heap.size w w') : WkG base g t us vs w' := h.keep hb.size fun k hk _ => hb.block k hk
/-- one of the rows grew, or was written, or another one took its place -/
theorem WkG.grow {t' : Tn} {v' : Value} (h : WkG base g t us vs w) (hj : j < 5) (hg : w.grownBy w' (vs j).ownBlock) (hv : ∀ k, v'.ownBlock = some k → (vs j).ownBlock = some k ∨ w.heap.size ≤ k) (hn : rowOk base (WX base g vs) t' j v' w')
    (hr : ∀ i, i ≠ j → ∀ X v W, rowOk base X t i v W → rowOk base X t' i v W) (hc : tnCells t' us = tnCells t us) (hf : t'.node.fits) : WkG base g t' us (fun q => if q = j then v' else vs q) w' := by
  have hlt := h.lt
  have hX : ∀ k, k < w.heap.size → WX base g (fun q => if q = j then v' else vs q) k → WX base g vs k := by
    rintro k hk (h1 | h1 | ⟨i, hi, h1⟩)
    · exact .inl h1
    · exact .inr (.inl h1)
    · by_cases e : i = j
      · subst e
        simp only [if_true] at h1
        rcases hv k h1 with h2 | h2
        · exact .inr (.inr ⟨i, hi, h2⟩)
        · omega
      · simp only [if_neg e] at h1
        exact .inr (.inr ⟨i, hi, h1⟩)
  refine ⟨?_, fun i hi => ?_, h.gb, fun i hi z hz => ?_, fun i k hi hk hik z hz e => ?_, hf, h.g2⟩
  · rw [hc]
    exact h.box.grown hg (fun e => h.ne j hj g e.symm rfl)
  · by_cases e : i = j
    · subst e
      simp only [if_true]
      refine hn.keep (Nat.le_refl _) (fun _ _ _ => rfl) (fun k hk hx => ?_)
      rcases hx with h1 | h1 | ⟨q, hq, h1⟩
      · exact .inl (.inl h1)
      · exact .inl (.inr (.inl h1))
      · by_cases e : q = i
        · subst e
          simp only [if_true] at h1
          exact .inr h1
        · simp only [if_neg e] at h1
          exact .inl (.inr (.inr ⟨q, hq, h1⟩))
    · simp only [if_neg e]
      refine (hr i e _ _ _ (h.rows i hi)).keep hg.size (fun k hk hx => hg.block k hk fun e' => ?_) (fun k hk hx => .inl (hX k hk hx))
      rcases hx with hx | hx
      · exact hx (.inr (.inr ⟨j, hj, e'.symm⟩))
      · exact h.di i j hi hj e k hx e'.symm
  · by_cases e : i = j
    · subst e
      simp only [if_true] at hz
      rcases hv z hz with e' | e'
      · exact h.ne i hi z e'
      · omega
    · simp only [if_neg e] at hz
      exact h.ne i hi z hz
  · by_cases e1 : i = j
    · subst e1
      have e2 : k ≠ i := fun e' => hik e'.symm
      simp only [if_true] at hz
      simp only [if_neg e2] at e
      rcases hv z hz with e' | e'
      · exact h.di i k hi hk hik z e' e
      · have := (rowOk.lt hk (h.rows k hk) z e).2; omega
    · simp only [if_neg e1] at hz
      by_cases e2 : k = j
      · subst e2
        simp only [if_true] at e
        rcases hv z e with e' | e'
        · exact h.di i k hi hk e1 z hz e'
        · have := (rowOk.lt hi (h.rows i hi) z hz).2; omega
      · simp only [if_neg e2] at e
        exact h.di i k hi hk hik z hz e
/-- a store into the block -/
theorem WkG.put {t' : Tn} {us' : Nat → Value} (h : WkG base g t us vs w) (ht : Touch (fun z => z = g) w w') (hb : Blk g (.cells (tnCells t' us') 82 (0, 0)) w') (hr : ∀ i X v W, rowOk base X t i v W → rowOk base X t' i v W) (hf : t'.node.fits) : WkG base g t' us' vs w' :=
  ⟨hb, fun j hj => (hr j _ _ _ (h.rows j hj)).keep ht.size (fun k hk hx => ht.block k hk fun e => by
    subst e
    rcases hx with hx | hx
    · exact hx (.inr (.inl rfl))
    · exact h.ne j hj k hx rfl) (fun k _ hx => .inl hx), h.gb, h.ne, h.di, hf, h.g2⟩
end
/-- what a step of a turn leaves: the turn, in memory that was its own or is new -/
def WkS (base g : Nat) (t' : Tn) (vs : Nat → Value) (w w' : World) : Prop := ∃ vs', WkM base g t' vs' w' ∧ Touch (Mine g vs) w w' ∧ ∀ z, Mine g vs' z → Mine g vs z ∨ w.heap.size ≤ z
section
variable {base g : Nat} {t t' : Tn} {vs vs' : Nat → Value} {w w' w2 : World}
theorem WkM.stay (h : WkM base g t vs w) : WkS base g t vs w w := ⟨vs, h, Touch.refl _ _, fun _ h => .inl h⟩
theorem WkM.stayB (h : WkM base g t vs w) (hb : Below w.heap.size w w') : WkS base g t vs w w' := ⟨vs, h.go hb, ⟨hb.os, hb.tape, hb.output, hb.size, fun k hk _ => hb.block k hk⟩, fun _ h => .inl h⟩
theorem Good.wk (hg : Good w) (h : WkM base g t vs w) (ht : Touch (Mine g vs) w w') : Good w' :=
  hg.keep ht.size fun b hb => ht.block b (by have := h.gb; have := h.g2; have := h.lt; omega) (fun hm => by have := (h.mine b hm).1; have := h.g2; omega)
/-- what reads goes on reading -/
theorem RdS.wk {α : Type} [Rep α] {l : List α} {a : Option Addr} {n c : Nat} (h : RdS (NM g vs w) w l a n c) (ht : Touch (Mine g vs) w w') (hm : ∀ z, Mine g vs' z → Mine g vs z ∨ w.heap.size ≤ z) : RdS (NM g vs' w') w' l a n c :=
  h.mono fun z hz => ⟨⟨Nat.lt_of_lt_of_le hz.1 ht.size, fun h' => by
    rcases hm z h' with h1 | h1
    · exact hz.2 h1
    · have := hz.1; omega⟩, ht.block z hz.1 hz.2⟩
theorem WkS.trans (ht : Touch (Mine g vs) w w') (hm : ∀ z, Mine g vs' z → Mine g vs z ∨ w.heap.size ≤ z) (h2 : WkS base g t' vs' w' w2) : WkS base g t' vs w w2 := by
  obtain ⟨vs3, k1, k2, k3⟩ := h2
  refine ⟨vs3, k1, ⟨k2.os.trans ht.os, k2.tape.trans ht.tape, k2.output.trans ht.output, Nat.le_trans ht.size k2.size, fun k hk hn => ?_⟩, fun z hz => ?_⟩
  · refine (k2.block k (Nat.lt_of_lt_of_le hk ht.size) fun h' => ?_).trans (ht.block k hk hn)
    rcases hm k h' with h1 | h1
    · exact hn h1
    · omega
  · rcases k3 z hz with h1 | h1
    · exact hm z h1
    · exact .inr (Nat.le_trans ht.size h1)
end
end Go.Proofs.YtkbfhgcjimfgkaaDoor
set_option linter.unusedSimpArgs false
namespace Go.Proofs.YtkbfhgcjimfgkaaDoor
open Go.RowKit
/-- the cells of a list that reads -/
theorem Elems.cells {α : Type} [Rep α] {A : Nat → Prop} {w : World} {b : Nat} : ∀ (ls : List α) (off : Nat), Elems A w b off ls → ∃ ys : List Value, ys.length = ls.length * Rep.n α ∧ (∀ u ∈ ys, u.oneCell' = true) ∧ (∀ j u, ys[j]? = some u → w.cell? ⟨b, off + j, none⟩ = some u) ∧
    ∀ i x, ls[i]? = some x → ∃ zs, Rep.rd A w x zs ∧ ∀ j u, zs[j]? = some u → ys[i * Rep.n α + j]? = some u
  | [], _, _ => ⟨[], by simp, by simp, by simp, by simp⟩
  | x :: ls, off, h => by
    obtain ⟨zs, h1, h2⟩ := h 0 x rfl
    have hz := Rep.len h1
    obtain ⟨ys, y1, y2, y3, y4⟩ := Elems.cells ls (off + Rep.n α) (fun i q hq => by
      obtain ⟨qs, q1, q2⟩ := h (i + 1) q hq
      refine ⟨qs, q1, fun j u hu => ?_⟩
      have := q2 j u hu
      rwa [show off + (i + 1) * Rep.n α + j = off + Rep.n α + i * Rep.n α + j by rw [Nat.add_mul]; omega] at this)
    refine ⟨zs ++ ys, ?_, ?_, ?_, ?_⟩
    · rw [List.length_append, hz, y1, List.length_cons, Nat.add_mul]; omega
    · intro u hu
      rcases List.mem_append.1 hu with hu | hu
      · exact Rep.one h1 u hu
      · exact y2 u hu
    · intro j u hu
      by_cases hj : j < zs.length
      · rw [List.getElem?_append_left hj] at hu
        have := h2 j u hu
        rwa [Nat.zero_mul, Nat.add_zero] at this
      · rw [List.getElem?_append_right (by omega)] at hu
        have := y3 _ u hu
        rwa [show off + Rep.n α + (j - zs.length) = off + j by omega] at this
    · intro i q hq
      cases i with
      | zero =>
        simp at hq
        subst hq
        refine ⟨zs, h1, fun j u hu => ?_⟩
        have hj := (List.getElem?_eq_some_iff.1 hu).1
        rw [Nat.zero_mul, Nat.zero_add, List.getElem?_append_left hj]
        exact hu
      | succ i =>
        obtain ⟨qs, q1, q2⟩ := y4 i q hq
        refine ⟨qs, q1, fun j u hu => ?_⟩
        have := q2 j u hu
        rw [List.getElem?_append_right (by rw [hz, Nat.add_mul]; omega)]
        rwa [show (i + 1) * Rep.n α + j - zs.length = i * Rep.n α + j by rw [hz, Nat.add_mul]; omega]
/-- many elements more -/
theorem OwnO.appendMany {α : Type} [Rep α] {P : Program} {X : Nat → Prop} {base : Nat} {v : Value} {l ls : List α} {w : World} (h : OwnO X base v l w) (hbase : base ≤ w.heap.size)
    (t ty e : TypeId) (i : TypeInfo) (z : Value) (bytes : Nat) (ht : P.underlying t = some (.slice e)) (hi : P.info? e = some i) (hz : i.zero = some z) (hsize : i.size = Rep.n α) (hby : i.bytes = bytes) (hzs : z.cells.size = Rep.n α)
    (ad : Addr) (c : Nat) (ys : List Value) (hyl : ys.length = ls.length * Rep.n α) (hyo : ∀ u ∈ ys, u.oneCell' = true) (hnews : ∀ j u, ys[j]? = some u → w.cell? (ad.add j) = some u)
    (hy : ∀ i x, ls[i]? = some x → ∃ zs, Rep.rd (fun b => b < w.heap.size ∧ ¬ X b ∧ v.ownBlock ≠ some b) w x zs ∧ ∀ j u, zs[j]? = some u → ys[i * Rep.n α + j]? = some u)
    (hpos : 0 < ls.length) (h63 : l.length + ls.length ≤ maxLen) (hbytes : (l.length + ls.length) * bytes ≤ 140737488355328) :
    ∃ g off cap w', (Builtin.append_ #[t, t] ty #[v, .slice (some ad) ls.length c]).run P w = .ok (.slice (some ⟨g, off, none⟩) (l.length + ls.length) cap) w' ∧ OwnO X base (.slice (some ⟨g, off, none⟩) (l.length + ls.length) cap) (l ++ ls) w' ∧ w.grownBy w' v.ownBlock ∧ (v.ownBlock = some g ∨ w.heap.size ≤ g) ∧ g < w'.heap.size := by
  have hl1 : (l ++ ls).length = l.length + ls.length := by simp
  have key : ∀ v' w' (xs : List Value), w'.ownsRow w.heap.size e (Rep.n α) v' (l.length + ls.length) (xs ++ ys) → w.grownBy w' none → xs.length = l.length * Rep.n α →
      (∀ i x, l[i]? = some x → ∃ zs, Rep.rd (fun b => b < w.heap.size ∧ ¬ X b) w x zs ∧ ∀ j u, zs[j]? = some u → xs[i * Rep.n α + j]? = some u) →
      ∃ g off cap, v' = .slice (some ⟨g, off, none⟩) (l.length + ls.length) cap ∧ OwnO X base v' (l ++ ls) w' ∧ w.heap.size ≤ g ∧ g < w'.heap.size := by
    intro v' w' xs ho hg hxl hx
    rcases ho.2 with ⟨_, h0⟩ | ⟨g, cap, cur, hv, hb, hh, hnc, hcm, hsz, htk⟩
    · omega
    · have hblk : Blk g (.cells cur e (0, 0)) w' := hh
      have hcs := fun j u hu => ho.cells (g := g) (by rw [hv]; rfl) j u hu
      refine ⟨g, 0, cap, hv, ⟨.inr ⟨g, 0, cap, by rw [hl1]; exact hv, by omega, hblk.lt, by rw [hl1]; exact hnc, hcm, fun j hj => ⟨?_, hblk.frozen _⟩, fun i x hi => ?_⟩⟩, hb, hblk.lt⟩
      · rw [hblk.cell, Array.getElem?_eq_getElem (by omega)]; rfl
      · have hgo : ∀ b, (b < w.heap.size ∧ ¬ X b) → (b < w'.heap.size ∧ ¬ X b ∧ b ≠ g) ∧ w'.heap[b]? = w.heap[b]? := fun b hb2 =>
          ⟨⟨Nat.lt_of_lt_of_le hb2.1 hg.size, hb2.2, by omega⟩, hg.block b hb2.1 (by simp)⟩
        by_cases hil : i < l.length
        · rw [List.getElem?_append_left hil] at hi
          obtain ⟨zs, r1, r2⟩ := hx i x hi
          refine ⟨zs, Rep.mono hgo r1, fun j u hu => ?_⟩
          have h3 := r2 j u hu
          have := hcs (i * Rep.n α + j) u (by rw [List.getElem?_append_left (List.getElem?_eq_some_iff.1 h3).1]; exact h3)
          rw [Addr.add_lit, Nat.zero_add] at this
          rw [Nat.zero_add]; exact this
        · rw [List.getElem?_append_right (by omega)] at hi
          obtain ⟨zs, r1, r2⟩ := hy _ x hi
          refine ⟨zs, Rep.mono (fun b hb2 => hgo b ⟨hb2.1, hb2.2.1⟩) r1, fun j u hu => ?_⟩
          have h3 := r2 j u hu
          have hmm : i * Rep.n α = l.length * Rep.n α + (i - l.length) * Rep.n α := by rw [← Nat.add_mul]; congr 1; omega
          have := hcs (i * Rep.n α + j) u (by rw [List.getElem?_append_right (by omega), hxl, show i * Rep.n α + j - l.length * Rep.n α = (i - l.length) * Rep.n α + j by omega]; exact h3)
          rw [Addr.add_lit, Nat.zero_add] at this
          rw [Nat.zero_add]; exact this
  rcases h.row with ⟨a, hv, hl, h2⟩ | ⟨g, off, cap, hv, h1, h2, h3, h4, h5, h6⟩
  · subst hl hv
    cases a with
    | none =>
      obtain ⟨v', w', hrun, r1, r2, _⟩ := run_append_own (P := P) w w.heap.size t ty e i z (Rep.n α) bytes ht hi hz hsize hby hzs Rep.pos (.slice none 0 0) 0 [] (World.ownsRow_nil _ _ _ _) ad ls.length c ys hyl hnews hyo (by simpa using h63) (by simpa using hbytes) (Nat.le_refl _)
      have r2' : w.grownBy w' none := r2
      obtain ⟨g, off, cap, rfl, k1, k2, k5⟩ := key v' w' [] (by simpa using r1) r2' (by simp) (fun i x hi => by simp at hi)
      exact ⟨g, off, cap, w', hrun, k1, r2, .inr k2, k5⟩
    | some a' =>
      obtain ⟨v', w', hrun, r1, r2⟩ := run_append_arg_grows (P := P) (w := w) t ty e i z (Rep.n α) bytes ht hi hz hsize hby hzs Rep.pos a' 0 0 [] (by simp) (by intro _ _ h'; simp at h') ad ls.length c ys hyl hnews (by omega) (by simpa using h63) (by simpa using hbytes)
      obtain ⟨g, off, cap, rfl, k1, k2, k5⟩ := key v' w' [] (by simpa using r1) r2 (by simp) (fun i x hi => by simp at hi)
      exact ⟨g, off, cap, w', hrun, k1, ⟨r2.os, r2.tape, r2.output, r2.size, fun k hk _ => r2.block k hk (by simp)⟩, .inr k2, k5⟩
  · subst hv
    by_cases hr : l.length + ls.length ≤ cap
    · have hmul : l.length * Rep.n α + ls.length * Rep.n α ≤ cap * Rep.n α := by
        have := Nat.mul_le_mul_right (Rep.n α) hr
        rwa [Nat.add_mul] at this
      have hrun := run_append_room_cells (P := P) (w := w) t ty e i ht hi g off l.length cap ad ls.length c ys (by rw [hsize]; exact hyl) hnews hyo hr
        (fun j hj => by rw [hsize, Nat.add_assoc]; exact (h5 _ (by omega)).1) (fun j hj => by rw [hsize, Nat.add_assoc]; exact (h5 _ (by omega)).2)
      rw [hsize] at hrun
      have hgr := grownBy_setCells w g (off + l.length * Rep.n α) ys
      have hsome : ∀ j, j < ys.length → (w.cell? ⟨g, off + l.length * Rep.n α + j, none⟩).isSome = true := fun j hj => by rw [Nat.add_assoc]; exact (h5 _ (by omega)).1
      refine ⟨g, off, cap, _, hrun, ⟨.inr ⟨g, off, cap, by rw [hl1], h1, by rw [size_setCells']; exact h2, by rw [hl1]; exact hr, h4, fun j hj => ?_, fun i' x hi' => ?_⟩⟩, hgr, .inl rfl, by rw [size_setCells']; exact h2⟩
      · refine ⟨?_, by rw [World.frozen?_setCells]; exact (h5 j hj).2⟩
        by_cases hin : l.length * Rep.n α ≤ j ∧ j < l.length * Rep.n α + ys.length
        · have := World.cell?_setCells_in g ys (off + l.length * Rep.n α) w hsome (j - l.length * Rep.n α) (by omega)
          rw [show off + l.length * Rep.n α + (j - l.length * Rep.n α) = off + j from by omega] at this
          rw [this]; rfl
        · rw [World.cell?_setCells_out g ys _ w ⟨g, off + j, none⟩ (fun _ _ => by show off + j < _ ∨ _ ≤ off + j; omega)]
          exact (h5 j hj).1
      · have hgo : ∀ b, (b < w.heap.size ∧ ¬ X b ∧ b ≠ g) → (b < (w.setCells g (off + l.length * Rep.n α) ys).heap.size ∧ ¬ X b ∧ b ≠ g) ∧ (w.setCells g (off + l.length * Rep.n α) ys).heap[b]? = w.heap[b]? := fun b hb2 =>
          ⟨⟨by rw [size_setCells']; exact hb2.1, hb2.2⟩, World.heap_setCells_other w g _ ys hb2.1 hb2.2.2⟩
        by_cases hil : i' < l.length
        · rw [List.getElem?_append_left hil] at hi'
          obtain ⟨zs, r1, r2⟩ := h6 i' x hi'
          refine ⟨zs, Rep.mono hgo r1, fun j u hu => ?_⟩
          have hjl : j < Rep.n α := by have := (List.getElem?_eq_some_iff.1 hu).1; have := Rep.len r1; omega
          have hmm : i' * Rep.n α + Rep.n α ≤ l.length * Rep.n α := by
            have := Nat.mul_le_mul_right (Rep.n α) (show i' + 1 ≤ l.length from hil)
            rwa [Nat.add_mul, Nat.one_mul] at this
          rw [World.cell?_setCells_out g ys _ w ⟨g, off + i' * Rep.n α + j, none⟩ (fun _ _ => .inl (by show off + i' * Rep.n α + j < _; omega))]
          exact r2 j u hu
        · rw [List.getElem?_append_right (by omega)] at hi'
          obtain ⟨zs, r1, r2⟩ := hy _ x hi'
          refine ⟨zs, Rep.mono (fun b hb2 => hgo b ⟨hb2.1, hb2.2.1, fun e' => hb2.2.2 (by rw [e']; rfl)⟩) r1, fun j u hu => ?_⟩
          have h7 := r2 j u hu
          have hj := (List.getElem?_eq_some_iff.1 h7).1
          have hmm : i' * Rep.n α = l.length * Rep.n α + (i' - l.length) * Rep.n α := by rw [← Nat.add_mul]; congr 1; omega
          have := World.cell?_setCells_in g ys (off + l.length * Rep.n α) w hsome _ hj
          rw [show off + i' * Rep.n α + j = off + l.length * Rep.n α + ((i' - l.length) * Rep.n α + j) by omega, this, ← h7, List.getElem?_eq_getElem hj]
    · have hcell : ∀ j, j < l.length * Rep.n α → ∃ u, w.cell? ⟨g, off + j, none⟩ = some u := fun j hj => by
        have hle : l.length * Rep.n α ≤ cap * Rep.n α := Nat.mul_le_mul_right _ h3
        have := (h5 j (by omega)).1
        exact Option.isSome_iff_exists.1 this
      have hlist : ∃ olds : List Value, olds.length = l.length * Rep.n α ∧ ∀ j, j < l.length * Rep.n α → w.cell? ⟨g, off + j, none⟩ = olds[j]? := by
        refine ⟨(List.range (l.length * Rep.n α)).map fun j => (w.cell? ⟨g, off + j, none⟩).getD undef, by simp, fun j hj => ?_⟩
        obtain ⟨u, hu⟩ := hcell j hj
        rw [List.getElem?_map, List.getElem?_range hj]
        simp [hu]
      obtain ⟨olds, ho1, ho2⟩ := hlist
      obtain ⟨v', w', hrun, r1, r2⟩ := run_append_arg_grows (P := P) (w := w) t ty e i z (Rep.n α) bytes ht hi hz hsize hby hzs Rep.pos ⟨g, off, none⟩ l.length cap olds ho1 (fun j u hu => by rw [Addr.add_lit, ho2 j (by have := (List.getElem?_eq_some_iff.1 hu).1; omega)]; exact hu) ad ls.length c ys hyl hnews (by omega) h63 hbytes
      obtain ⟨g2, off2, cap2, rfl, k1, k2, k5⟩ := key v' w' olds r1 r2 ho1 (fun i x hi' => by
        obtain ⟨zs, q1, q2⟩ := h6 i x hi'
        refine ⟨zs, Rep.mono (fun b hb2 => ⟨⟨hb2.1, hb2.2.1⟩, rfl⟩) q1, fun j u hu => ?_⟩
        have hjl : j < Rep.n α := by have := (List.getElem?_eq_some_iff.1 hu).1; have := Rep.len q1; omega
        have hil := (List.getElem?_eq_some_iff.1 hi').1
        have hmm : i * Rep.n α + Rep.n α ≤ l.length * Rep.n α := by
          have := Nat.mul_le_mul_right (Rep.n α) (show i + 1 ≤ l.length from hil)
          rwa [Nat.add_mul, Nat.one_mul] at this
        rw [← ho2 _ (by omega), ← Nat.add_assoc]
        exact q2 j u hu)
      exact ⟨g2, off2, cap2, w', hrun, k1, ⟨r2.os, r2.tape, r2.output, r2.size, fun k hk _ => r2.block k hk (by simp)⟩, .inr k2, k5⟩
/-- .. as a law for the walk: what is appended reads as a list of at least one -/
theorem wpList_append_manyO {α : Type} [Rep α] {P : Program} {X : Nat → Prop} {w : World} {ops : Array Oper} {rest : List Oper} {o : Oper} {a : Act} {Q : Exit → Act → World → Prop} (hgd : o.guard = none) (s x : Operand) (t : TypeId)
    (ho : o.op = .call { callee := .builtin .append, args := #[s, x], argTypes := #[t, t] })
    (base : Nat) (e : TypeId) (i : TypeInfo) (z : Value) (bytes : Nat) (ht : P.underlying t = some (.slice e)) (hi : P.info? e = some i) (hz : i.zero = some z)
    (hsize : i.size = Rep.n α) (hby : i.bytes = bytes) (hzs : z.cells.size = Rep.n α)
    (v : Value) (l ls : List α) (hs : a.eval s = v) (hown : OwnO X base v l w)
    (gb off c : Nat) (hx : a.eval x = .slice (some ⟨gb, off, none⟩) ls.length c) (hrd : Elems (fun b => b < w.heap.size ∧ ¬ X b ∧ v.ownBlock ≠ some b) w gb off ls)
    (hpos : 0 < ls.length) (h63 : l.length + ls.length ≤ maxLen) (hbytes : (l.length + ls.length) * bytes ≤ 140737488355328) (hbase : base ≤ w.heap.size)
    (h : ∀ g off cap w', OwnO X base (.slice (some ⟨g, off, none⟩) (l.length + ls.length) cap) (l ++ ls) w' → w.grownBy w' v.ownBlock → (v.ownBlock = some g ∨ w.heap.size ≤ g) → g < w'.heap.size → wpList P ops Q rest (a.put o.dst (.slice (some ⟨g, off, none⟩) (l.length + ls.length) cap)) w') : wpList P ops Q (o :: rest) a w := by
  refine wpList_plain hgd fun K hK' => ?_
  obtain ⟨ys, y1, y2, y3, y4⟩ := Elems.cells ls off hrd
  obtain ⟨g, off', cap, w', hrun, r1, r2, r3, r4⟩ := hown.appendMany (P := P) hbase t o.type e i z bytes ht hi hz hsize hby hzs ⟨gb, off, none⟩ c ys y1 y2 (fun j u hu => by rw [Addr.add_lit]; exact y3 j u hu) y4 hpos h63 hbytes
  unfold Oper.wp
  simp [execOp, ho, resolve, invoke, builtin, hs, hx, hrun, Result.andThen]
  exact hK' _ _ (h g off' cap w' r1 r2 r3 r4)
end Go.Proofs.YtkbfhgcjimfgkaaDoor
set_option linter.unusedSimpArgs false
namespace Go.Proofs.YtkbfhgcjimfgkaaDoor
open Go.RowKit
set_option maxRecDepth 100000 in
theorem node_ptr (g : Nat) (w : World) : Calls Tryd.prog 27 #[.pointer (some ⟨g, 0, none⟩)] w fun e w' => e = .returned (.pointer (some ⟨g, 0, none⟩)) ∧ w = w' := by
  go_enter Tryd.func27, Tryd.ntmps27
  go_wp2_with fail
  go_ret
  exact ⟨rfl, rfl⟩
/-- memory from base on that a turn does not write -/
def NB (base g : Nat) (vs : Nat → Value) (w : World) (z : Nat) : Prop := base ≤ z ∧ NM g vs w z
def Tn.peer (t : Tn) (s : Nat) : Int := (t.node.sides.map Sd.peer).getD s 0
def Tn.post (t : Tn) (s : Nat) (ps : List Pkt) : Tn := { t with posts := t.posts ++ ps.map (fun p => ⟨t.peer s, p⟩) }
theorem Tn.post_nil (t : Tn) (s : Nat) : t.post s [] = t := by unfold Tn.post; simp
theorem Tn.post_more (t : Tn) (s : Nat) (ps : List Pkt) (p : Pkt) : (t.post s ps).post s [p] = t.post s (ps ++ [p]) := by
  unfold Tn.post Tn.peer
  simp only [List.map_append, List.map_cons, List.map_nil, List.append_assoc]
theorem RdS.nb {α : Type} [Rep α] {base g : Nat} {vs vs' : Nat → Value} {w w' : World} {l : List α} {a : Option Addr} {n c : Nat} (h : RdS (NB base g vs w) w l a n c) (ht : Touch (Mine g vs) w w') (hm : ∀ z, Mine g vs' z → Mine g vs z ∨ w.heap.size ≤ z) : RdS (NB base g vs' w') w' l a n c :=
  h.mono fun z hz => ⟨⟨hz.1, Nat.lt_of_lt_of_le hz.2.1 ht.size, fun h' => by
    rcases hm z h' with h1 | h1
    · exact hz.2.2 h1
    · have := hz.2.1; omega⟩, ht.block z hz.2.1 hz.2.2⟩
/-- the row of the sides, and one side in its cells -/
theorem WkG.side {base g : Nat} {t : Tn} {us vs : Nat → Value} {w : World} (h : WkG base g t us vs w) (s : Nat) (hs : s < t.node.sides.length) :
    ∃ r o c xs, vs 0 = .slice (some ⟨r, o, none⟩) t.node.sides.length c ∧ base ≤ r ∧ r < w.heap.size ∧ r ≠ g ∧ t.node.sides.length ≤ c ∧ c ≤ maxLen ∧ Rep.rd (fun b => b < w.heap.size ∧ ¬ WX base g vs b ∧ b ≠ r) w t.node.sides[s] xs ∧ (∀ j v, xs[j]? = some v → w.cell? ⟨r, o + s * 10 + j, none⟩ = some v) ∧
      (∀ j, j < c * 10 → w.frozen? ⟨r, o + j, none⟩ = false) := by
  have h0 : OwnO (WX base g vs) base (vs 0) t.node.sides w := h.rows 0 (by omega)
  rcases h0.row with ⟨a, hv, hl, h2⟩ | ⟨r, o, cap, hv, h1, h2, h3, h4, h5, h6⟩
  · rw [hl] at hs; simp at hs
  · obtain ⟨xs, r1, r2⟩ := h6 s _ (List.getElem?_eq_getElem hs)
    exact ⟨r, o, cap, xs, hv, h1, h2, h.ne 0 (by omega) r (by rw [hv]; rfl), h3, h4, r1, r2, fun j hj => (h5 j hj).2⟩
theorem infoPo : (Tryd.prog.info? 48).map (fun i => (i.zero, i.size, i.bytes)) = some (some (.agg #[.int .i64 0, .int .i64 0, .int .i64 0, .bool false, .int .i64 0, .int .i64 0, .int .i64 0, .int .i64 0, .slice none 0 0, .string ⟨#[]⟩]), 10, 104) := by kernel_rfl
set_option maxRecDepth 100000 in
set_option maxHeartbeats 8000000 in
theorem post_any (base g : Nat) (t : Tn) (vs : Nat → Value) (s : Nat) (ps : List Pkt) (pa : Option Addr) (pc : Nat) (w : World) (h : WkM base g t vs w) (hs : s < t.node.sides.length) (hr : RdS (NB base g vs w) w ps pa ps.length pc) (hn : t.posts.length ≤ 1000000) (hp : ps.length ≤ 1000000) :
    Calls Tryd.prog 43 #[.pointer (some ⟨g, 0, none⟩), .int .i64 (s : Int), .slice pa ps.length pc] w fun e w' => e = .returned (.tuple #[]) ∧ WkS base g (t.post s ps) vs w w' := by
  have HM := Lib.hid h
  have Hr := Lib.hid hr
  have hpcm := hr.2.2.1
  have hpcn := hr.2.1
  obtain ⟨i0, hi, hz0, hz1, hz2⟩ := info_parts infoPo
  have Hi := Lib.hid hi
  have Hz0 := Lib.hid hz0
  have Hz1 := Lib.hid hz1
  have Hz2 := Lib.hid hz2
  have Hn := Lib.hid hn
  have Hp := Lib.hid hp
  have hps : (ps.length : Int) ≤ 1000000 := by omega
  have hgb := h.gb
  generalize hN : ps.length = N at *
  have HN := Lib.hid hN
  clear h hr hi hz0 hz1 hz2 hN hn hp
  go_enter Tryd.func43, Tryd.ntmps43
  go_wp2_with fail
  go_loopw [10] (fun vi wr => ∃ k : Nat, k ≤ N ∧ vi = .int .i64 (k : Int) ∧ WkS base g (t.post s (ps.take k)) vs w wr) (fun vi _ => N - (intOf vi).toNat)
  case atStart => exact ⟨0, by omega, rfl, by rw [List.take_zero, Tn.post_nil]; exact HM.out.stay⟩
  case round =>
    obtain ⟨k, hk, rfl, v1, m1, ht1, hm1⟩ := hrel
    by_cases hlt : k < N
    · have hlt' : (k : Int) < (N : Int) := by omega
      have hkl : k < ps.length := by have := HN.out; omega
      have R1 := Hr.out.nb ht1 hm1
      obtain ⟨pb, po, xs, rfl, hA, hpb, ⟨oa, on, oc, rfl, hop, hf1, hf2, hf3, hf4⟩, hcl⟩ := R1.elem k hkl
      have y0 : wr.cell? ⟨pb, po + k * 9, none⟩ = some _ := hcl 0 _ rfl
      have y1 : wr.cell? ⟨pb, po + k * 9 + 1, none⟩ = some _ := hcl 1 _ rfl
      have y2 : wr.cell? ⟨pb, po + k * 9 + 2, none⟩ = some _ := hcl 2 _ rfl
      have y3 : wr.cell? ⟨pb, po + k * 9 + 3, none⟩ = some _ := hcl 3 _ rfl
      have y4 : wr.cell? ⟨pb, po + k * 9 + 4, none⟩ = some _ := hcl 4 _ rfl
      have y5 : wr.cell? ⟨pb, po + k * 9 + 5, none⟩ = some _ := hcl 5 _ rfl
      have y6 : wr.cell? ⟨pb, po + k * 9 + 6, none⟩ = some _ := hcl 6 _ rfl
      have y7 : wr.cell? ⟨pb, po + k * 9 + 7, none⟩ = some _ := hcl 7 _ rfl
      have y8 : wr.cell? ⟨pb, po + k * 9 + 8, none⟩ = some _ := hcl 8 _ rfl
      have hon := hop.1
      subst hon
      have hs1 : s < (t.post s (ps.take k)).node.sides.length := hs
      have hnx : t.post s (ps.take (k + 1)) = (t.post s (ps.take k)).post s [ps[k]] := by
        rw [Tn.post_more, List.take_succ_eq_append_getElem hkl]
      have hpl : (t.post s (ps.take k)).posts.length ≤ 2000000 := by
        show (t.posts ++ _).length ≤ _
        rw [List.length_append, List.length_map, List.length_take]
        have := Hn.out
        omega
      have Hnx := Lib.hid hnx
      generalize t.post s (ps.take k) = t1 at *
      generalize ps[k] = p at *
      have M1 := Lib.hid m1
      have HS1 := Lib.hid (And.intro ht1 hm1)
      have Hop := Lib.hid hop
      have Hff := Lib.hid (And.intro hf1 (And.intro hf2 (And.intro hf3 hf4)))
      have hkc : (k : Int) < (pc : Int) := by omega
      clear m1 ht1 hm1 R1 hcl hop hf1 hf2 hf3 hf4 hA hnx
      have HNP := Lib.hid (fun W => node_ptr g W)
      obtain ⟨sr, so, sc, sxs, hv0, hsr1, hsr2, hsr3, hsr4, hsr5, hsr6, -, hsr8⟩ := M1.out.side s hs1
      have hv3 : ∃ a3 c3, v1 3 = .slice a3 t1.posts.length c3 := by
        have h3 : OwnO (WX base g v1) base (v1 3) t1.posts wr := M1.out.rows 3 (by omega)
        obtain ⟨a, c, h, -⟩ := h3.form
        exact ⟨a, c, h⟩
      have HV0 := Lib.hid hv0
      have Hpe : Hid (I64 (t1.peer s)) := by
        obtain ⟨_, _, _, _, _, _, -, -, -, -, hpe, -⟩ := hsr6
        unfold Hid Tn.peer
        rw [List.getD_eq_getElem?_getD, List.getElem?_map, List.getElem?_eq_getElem hs1]
        exact hpe
      have hmine := M1.out.mine
      have Hmine := Lib.hid hmine
      have Hnx2 := Lib.hid hpl
      have hsI : (s : Int) < (sc : Int) := by omega
      have hsI2 : (s : Int) < (t1.node.sides.length : Int) := by omega
      have hsc : (sc : Int) ≤ 9223372036854775807 := by unfold maxLen at hsr5; omega
      clear hmine hv0 hpl hsr8 hv3 hsr6
      generalize hNS : t1.node.sides.length = NS at *
      have HNS := Lib.hid hNS
      clear hNS
      go_wp2_with fail
      refine abs_w (fun W => Below wr.heap.size wr W ∧ Blk wr.heap.size (.cells #[.int .i64 p.epoch, .int .i64 p.number, .bool p.bare, .int .i64 p.ack, .int .i64 p.f.kind, .int .i64 p.f.heard, .int .i64 p.f.epoch, .slice oa p.f.op.length oc, .string p.f.text] 46 (0, 0)) W) ⟨(Below.refl _ _).alloc (Nat.le_refl _) _, Blk.new wr _⟩ ?_
      rintro w2 ⟨b2, x2⟩
      have B2 := Lib.hid b2
      have X2 := Lib.hid x2
      have M2 := Lib.hid (M1.out.go b2)
      have hz2 := b2.size
      clear b2 x2 y0 y1 y2 y3 y4 y5 y6 y7 y8
      obtain ⟨Vp, HV⟩ : ∃ Vp : Nat → Value → World → Prop, Hid (Vp = fun i v W => match i with
          | 0 => v = .pointer (some ⟨g, 0, none⟩)
          | 1 => v = .pointer (some ⟨g, 0, none⟩)
          | 2 => v = .pointer (some ⟨g, 0, none⟩)
          | 3 => v = .pointer (some ⟨g, 0, none⟩)
          | 4 => v = .pointer (some ⟨g, 8, none⟩)
          | 5 => v = v1 3
          | 6 => v = .pointer (some ⟨g, 0, none⟩)
          | 7 => v = .pointer (some ⟨g, 0, none⟩)
          | 8 => v = .pointer (some ⟨g, 0, none⟩)
          | 9 => v = .pointer (some ⟨g, 5, none⟩)
          | 10 => v = .slice (some ⟨sr, so, none⟩) NS sc
          | 11 => v = .int .i64 (s : Int)
          | 12 => v = .pointer (some ⟨sr, so + s * 10, none⟩)
          | 13 => v = .pointer (some ⟨sr, so + s * 10, none⟩)
          | 14 => v = .int .i64 (t1.peer s)
          | 15 => v = .agg #[.int .i64 p.epoch, .int .i64 p.number, .bool p.bare, .int .i64 p.ack, .int .i64 p.f.kind, .int .i64 p.f.heard, .int .i64 p.f.epoch, .slice oa p.f.op.length oc, .string p.f.text]
          | 16 => v = .agg #[.int .i64 (t1.peer s), .int .i64 p.epoch, .int .i64 p.number, .bool p.bare, .int .i64 p.ack, .int .i64 p.f.kind, .int .i64 p.f.heard, .int .i64 p.f.epoch, .slice oa p.f.op.length oc, .string p.f.text]
          | 17 => ∃ b, v = .slice (some ⟨b, 0, none⟩) 1 1 ∧ Blk b (.cells #[.int .i64 (t1.peer s), .int .i64 p.epoch, .int .i64 p.number, .bool p.bare, .int .i64 p.ack, .int .i64 p.f.kind, .int .i64 p.f.heard, .int .i64 p.f.epoch, .slice oa p.f.op.length oc, .string p.f.text] 48 (0, 0)) W ∧ w2.heap.size ≤ b
          | 18 => ∃ q o n, v = .slice (some ⟨q, o, none⟩) (t1.posts.length + 1) n ∧ ((v1 3).ownBlock = some q ∨ wr.heap.size ≤ q)
          | 19 => v = .pointer (some ⟨g, 0, none⟩)
          | 20 => v = .pointer (some ⟨g, 0, none⟩)
          | 21 => v = .pointer (some ⟨g, 8, none⟩)
          | _ => v = undef) := ⟨_, rfl⟩
      obtain ⟨Ip, HIp⟩ : ∃ Ip : (Nat → Bool) → (Nat → Value) → World → Prop, Hid (Ip = fun L x W => (Touch (Mine g v1) w2 W ∧ (L 18 = false → WkM base g t1 v1 W) ∧ (L 18 = true → L 22 = false → WkG base g (t1.post s [p]) v1 (fun q => if q = 3 then x 18 else v1 q) W) ∧ (L 22 = true → ∃ v2, WkM base g (t1.post s [p]) v2 W ∧ ∀ z, Mine g v2 z → Mine g v1 z ∨ wr.heap.size ≤ z))) := ⟨_, rfl⟩
      refine region_lit3 (by kernel_rfl) (by kernel_rfl) (by kernel_rfl) [[], [], [1], [1, 2], [1, 2, 3], [1, 2, 3, 4], [], [6], [6, 7], [6, 7, 8], [6, 7, 8, 9], [], [6, 7, 8, 9, 10, 11], [6, 7, 8, 9, 10, 11, 12], [6, 7, 8, 9, 10, 11, 12, 13], [], [6, 7, 8, 9, 10, 11, 12, 13, 14, 15], [6, 7, 8, 9, 10, 11, 12, 13, 14, 15, 16], [1, 2, 3, 4, 5, 6, 7, 8, 9, 10, 11, 12, 13, 14, 15, 16, 17], [0], [0, 19], [0, 19, 20], [0, 1, 2, 3, 4, 5, 6, 7, 8, 9, 10, 11, 12, 13, 14, 15, 16, 17, 18, 19, 20, 21]] (by kernel_rfl) [some 14, some 15, some 16, some 17, some 18, some 19, some 20, some 21, some 22, some 23, some 24, some 25, some 26, some 27, some 28, some 29, some 30, some 31, some 32, some 33, some 34, some 35, none] (by kernel_rfl) [[0, 19, 20, 21, 22], [1, 2, 3, 4, 5, 18, 22], [2, 3, 4, 5, 18, 22], [3, 4, 5, 18, 22], [4, 5, 18, 22], [5, 18, 22], [6, 7, 8, 9, 10, 12, 13, 14, 16, 17, 18, 22], [7, 8, 9, 10, 12, 13, 14, 16, 17, 18, 22], [8, 9, 10, 12, 13, 14, 16, 17, 18, 22], [9, 10, 12, 13, 14, 16, 17, 18, 22], [10, 12, 13, 14, 16, 17, 18, 22], [11, 12, 13, 14, 16, 17, 18, 22], [12, 13, 14, 16, 17, 18, 22], [13, 14, 16, 17, 18, 22], [14, 16, 17, 18, 22], [15, 16, 17, 18, 22], [16, 17, 18, 22], [17, 18, 22], [18, 22], [19, 20, 21, 22], [20, 21, 22], [21, 22], [22]] (by kernel_rfl) [[], [], [], [], [], [], [], [], [], [], [], [], [], [], [], [], [], [18, 22], [], [], [], [], []] [[], [], [1], [2], [3], [4], [], [6], [7], [8], [9], [], [10, 11], [12], [13], [], [14, 15], [16], [5, 17], [0], [19], [20], [18, 21]] (by kernel_rfl)
        Ip
        Vp
        (fun j W W' => match j with
          | 18 => W.grownBy W' (v1 3).ownBlock
          | 22 => Touch (fun z => z = g) W W'
          | _ => Below W.heap.size W W')
        [fun x => ⟨(fZm 0 (.pointer (some ⟨g, 0, none⟩)) (fEm 14)).toArray, []⟩,
   fun x => ⟨(fZm 0 (.pointer (some ⟨g, 0, none⟩)) (fEm 15)).toArray, []⟩,
   fun x => ⟨(fZm 15 (x 1) (fEm 1)).toArray, []⟩,
   fun x => ⟨(fZm 16 (x 2) (fEm 1)).toArray, []⟩,
   fun x => ⟨(fZm 17 (x 3) (fEm 1)).toArray, []⟩,
   fun x => ⟨(fZm 18 (x 4) (fEm 1)).toArray, []⟩,
   fun x => ⟨(fZm 0 (.pointer (some ⟨g, 0, none⟩)) (fEm 20)).toArray, []⟩,
   fun x => ⟨(fZm 20 (x 6) (fEm 1)).toArray, []⟩,
   fun x => ⟨(fZm 21 (x 7) (fEm 1)).toArray, []⟩,
   fun x => ⟨(fZm 22 (x 8) (fEm 1)).toArray, []⟩,
   fun x => ⟨(fZm 23 (x 9) (fEm 1)).toArray, []⟩,
   fun x => ⟨(fZm 1 (.int .i64 (s : Int)) (fEm 24)).toArray, []⟩,
   fun x => ⟨(fZm 24 (x 10) (fZm 0 (x 11) (fEm 1))).toArray, []⟩,
   fun x => ⟨(fZm 26 (x 12) (fEm 1)).toArray, []⟩,
   fun x => ⟨(fZm 27 (x 13) (fEm 1)).toArray, []⟩,
   fun x => ⟨(fZm 7 (.pointer (some ⟨wr.heap.size, 0, none⟩)) (fEm 22)).toArray, []⟩,
   fun x => ⟨(fZm 28 (x 14) (fZm 0 (x 15) (fEm 1))).toArray, []⟩,
   fun x => ⟨(fZm 30 (x 16) (fEm 1)).toArray, []⟩,
   fun x => ⟨(fZm 19 (x 5) (fZm 11 (x 17) (fEm 1))).toArray, []⟩,
   fun x => ⟨(fZm 14 (x 0) (fEm 19)).toArray, []⟩,
   fun x => ⟨(fZm 33 (x 19) (fEm 1)).toArray, []⟩,
   fun x => ⟨(fZm 34 (x 20) (fEm 1)).toArray, []⟩,
   fun x => ⟨(fZm 32 (x 18) (fZm 2 (x 21) [])).toArray, []⟩]
        ?hF ?mono ?h0 ?step [0, 1, 2, 3, 4, 5, 6, 7, 8, 9, 10, 11, 12, 13, 14, 15, 16, 18, 19, 20, 21, 22] (by kernel_rfl) ?fin
      case hF =>
        iterate 23 refine ⟨fun x => ⟨by kernel_rfl, by kernel_rfl⟩, ?_⟩
        trivial
      case mono =>
        intro i j hi hj hne hna hnk v W W' hE hv
        rw [HV.out] at hv ⊢
        simp only [List.length_cons, List.length_nil] at hi hj
        match i, hi with
        | 0, _ | 1, _ | 2, _ | 3, _ | 4, _ | 5, _ | 6, _ | 7, _ | 8, _ | 9, _ | 10, _ | 11, _ | 12, _ | 13, _ | 14, _ | 15, _ | 16, _ | 19, _ | 20, _ | 21, _ | 22, _ => exact hv
        | 17, _ =>
          match j, hj with
          | 17, _ => exact absurd rfl hne
          | 6, _ | 7, _ | 8, _ | 9, _ | 10, _ | 11, _ | 12, _ | 13, _ | 14, _ | 15, _ | 16, _ => exact absurd (by simp) hna
          | 18, _ | 22, _ => exact absurd (by simp) hnk
          | 0, _ | 1, _ | 2, _ | 3, _ | 4, _ | 5, _ | 19, _ | 20, _ | 21, _ => exact (by obtain ⟨b, h1, h2, h3⟩ := hv; exact ⟨b, h1, h2.go hE, h3⟩)
          | m + 23, h => exact absurd h (by omega)
        | 18, _ =>
          match j, hj with
          | 18, _ => exact absurd rfl hne
          | 1, _ | 2, _ | 3, _ | 4, _ | 5, _ | 6, _ | 7, _ | 8, _ | 9, _ | 10, _ | 11, _ | 12, _ | 13, _ | 14, _ | 15, _ | 16, _ | 17, _ => exact absurd (by simp) hna
          | 0, _ | 19, _ | 20, _ | 21, _ | 22, _ => exact (id hv)
          | m + 23, h => exact absurd h (by omega)
        | m + 23, h => exact absurd h (by omega)
      case h0 => intro x; exact toI HIp ⟨(Touch.refl _ _).drew, (fun _ => M2.out.go (Below.refl _ _).drew), (fun h => by cases h), (fun h => by cases h)⟩
      case step =>
        refine ⟨?_, ?_, ?_, ?_, ?_, ?_, ?_, ?_, ?_, ?_, ?_, ?_, ?_, ?_, ?_, ?_, ?_, ?_, ?_, ?_, ?_, ?_, ?_, trivial⟩
        all_goals
          intro x W L hI hL hV
          replace hI : (Touch (Mine g v1) w2 W ∧ (L 18 = false → WkM base g t1 v1 W) ∧ (L 18 = true → L 22 = false → WkG base g (t1.post s [p]) v1 (fun q => if q = 3 then x 18 else v1 q) W) ∧ (L 22 = true → ∃ v2, WkM base g (t1.post s [p]) v2 W ∧ ∀ z, Mine g v2 z → Mine g v1 z ∨ wr.heap.size ≤ z)) := ofI HIp hI
          rw [HV.out] at hV
          simp only [AllV, and_true] at hV
          dsimp only [fZm, fEm, List.reduceReplicate, List.cons_append, List.nil_append]
        · clear hV
          have HI := Lib.hid hI
          clear hI
          go_wp2_with fail
          refine step3_done rfl ?_ ?_ ?_
          · exact (toI HIp HI.out)
          · exact (Below.refl _ _)
          · exact (toV HV rfl)
        · clear hV
          have HI := Lib.hid hI
          clear hI
          go_wp2_with fail
          refine step3_done rfl ?_ ?_ ?_
          · exact (toI HIp HI.out)
          · exact (Below.refl _ _)
          · exact (toV HV rfl)
        · have u1 := hV
          clear hV
          simp only [u1]
          clear u1
          have HI := Lib.hid hI
          clear hI
          go_wp2_with fail
          refine step3_done rfl ?_ ?_ ?_
          · exact (toI HIp HI.out)
          · exact (Below.refl _ _)
          · exact (toV HV rfl)
        · have u2 := hV
          clear hV
          simp only [u2]
          clear u2
          have HI := Lib.hid hI
          clear hI
          go_wp2_with fail
          refine step3_done rfl ?_ ?_ ?_
          · exact (toI HIp HI.out)
          · exact (Below.refl _ _)
          · exact (toV HV rfl)
        · have u3 := hV
          clear hV
          simp only [u3]
          clear u3
          have HI := Lib.hid hI
          clear hI
          go_wp2_with fail
          refine step3_done rfl ?_ ?_ ?_
          · exact (toI HIp HI.out)
          · exact (Below.refl _ _)
          · exact (toV HV rfl)
        · have u4 := hV
          clear hV
          simp only [u4]
          clear u4
          obtain ⟨-, -, -, -, -, -, -, -, p8, -⟩ := blk10_cells (hI.2.1 (hL.2 18 (by simp))).box
          have HI := Lib.hid hI
          clear hI
          go_wp2_with fail
          refine step3_done rfl ?_ ?_ ?_
          · exact (toI HIp HI.out)
          · exact (Below.refl _ _)
          · exact (toV HV rfl)
        · clear hV
          have HI := Lib.hid hI
          clear hI
          go_wp2_with fail
          refine step3_done rfl ?_ ?_ ?_
          · exact (toI HIp HI.out)
          · exact (Below.refl _ _)
          · exact (toV HV rfl)
        · have u6 := hV
          clear hV
          simp only [u6]
          clear u6
          have HI := Lib.hid hI
          clear hI
          go_wp2_with fail
          refine (HNP.out W).mono ?_
          rintro e W' ⟨rfl, rfl⟩
          go_wp2_with fail
          refine step3_done rfl ?_ ?_ ?_
          · exact (toI HIp HI.out)
          · exact (Below.refl _ _)
          · exact (toV HV rfl)
        · have u7 := hV
          clear hV
          simp only [u7]
          clear u7
          have HI := Lib.hid hI
          clear hI
          go_wp2_with fail
          refine step3_done rfl ?_ ?_ ?_
          · exact (toI HIp HI.out)
          · exact (Below.refl _ _)
          · exact (toV HV rfl)
        · have u8 := hV
          clear hV
          simp only [u8]
          clear u8
          have HI := Lib.hid hI
          clear hI
          go_wp2_with fail
          refine step3_done rfl ?_ ?_ ?_
          · exact (toI HIp HI.out)
          · exact (Below.refl _ _)
          · exact (toV HV rfl)
        · have u9 := hV
          clear hV
          simp only [u9]
          clear u9
          obtain ⟨-, -, -, -, -, p5, -⟩ := blk10_cells (hI.2.1 (hL.2 18 (by simp))).box
          rw [HV0.out] at p5
          have HI := Lib.hid hI
          clear hI
          go_wp2_with fail
          refine step3_done rfl ?_ ?_ ?_
          · exact (toI HIp HI.out)
          · exact (Below.refl _ _)
          · exact (toV HV rfl)
        · clear hV
          have HI := Lib.hid hI
          clear hI
          go_wp2_with fail
          refine step3_done rfl ?_ ?_ ?_
          · exact (toI HIp HI.out)
          · exact (Below.refl _ _)
          · exact (toV HV rfl)
        · obtain ⟨u10, u11⟩ := hV
          simp only [u10, u11]
          clear u10 u11
          have HI := Lib.hid hI
          clear hI
          go_wp2_with fail
          refine step3_done rfl ?_ ?_ ?_
          · exact (toI HIp HI.out)
          · exact (Below.refl _ _)
          · exact (toV HV rfl)
        · have u12 := hV
          clear hV
          simp only [u12]
          clear u12
          have HI := Lib.hid hI
          clear hI
          go_wp2_with fail
          refine step3_done rfl ?_ ?_ ?_
          · exact (toI HIp HI.out)
          · exact (Below.refl _ _)
          · exact (toV HV rfl)
        · have u13 := hV
          clear hV
          simp only [u13]
          clear u13
          have hMW := hI.2.1 (hL.2 18 (by simp))
          obtain ⟨qr, qo, qc, qxs, hq0, -, -, -, -, -, hqrd, hqc, -⟩ := hMW.side s (by rw [HNS.out]; exact hs1)
          rw [HV0.out] at hq0
          injection hq0 with e1 e2 e3
          injection e1 with e1
          injection e1 with e1 e4
          subst e1 e4
          obtain ⟨_, _, _, _, _, _, rfl, -⟩ := hqrd
          have hpc : W.cell? ⟨sr, so + s * 10, none⟩ = some (.int .i64 (t1.peer s)) := by
            refine (hqc 0 _ rfl).trans ?_
            unfold Tn.peer
            rw [List.getD_eq_getElem?_getD, List.getElem?_map, List.getElem?_eq_getElem (by rw [HNS.out]; exact hs1)]
            rfl
          have HI := Lib.hid hI
          clear hI hMW hqc
          go_wp2_with fail
          refine step3_done rfl ?_ ?_ ?_
          · exact (toI HIp HI.out)
          · exact (Below.refl _ _)
          · exact (toV HV rfl)
        · clear hV
          have hb := X2.out.touch hI.1 (fun h => by have := (Hmine.out _ h).2; omega)
          have y0 := hb.cell 0
          have y1 := hb.cell 1
          have y2 := hb.cell 2
          have y3 := hb.cell 3
          have y4 := hb.cell 4
          have y5 := hb.cell 5
          have y6 := hb.cell 6
          have y7 := hb.cell 7
          have y8 := hb.cell 8
          have HI := Lib.hid hI
          clear hI hb
          go_wp2_with fail
          refine step3_done rfl ?_ ?_ ?_
          · exact (toI HIp HI.out)
          · exact (Below.refl _ _)
          · exact (toV HV rfl)
        · obtain ⟨u14, u15⟩ := hV
          simp only [u14, u15]
          clear u14 u15
          have HI := Lib.hid hI
          clear hI
          go_wp2_with fail
          refine step3_done rfl ?_ ?_ ?_
          · exact (toI HIp HI.out)
          · exact (Below.refl _ _)
          · exact (toV HV rfl)
        · have u16 := hV
          clear hV
          simp only [u16]
          clear u16
          have HL := Lib.hid hL
          have HI := Lib.hid hI
          have hzW := hI.1.size
          clear hI hL
          go_wp2_with fail
          have uW : ∀ o, Below W.heap.size W (W.alloc o) := fun o => (Below.refl _ _).alloc (Nat.le_refl _) o
          refine step3_done rfl ?_ ?_ ?_
          · exact (toI HIp ⟨HI.out.1.below (uW _) hzW, (fun h => (HI.out.2.1 h).go (uW _)), (fun h => absurd ((HL.out.2 18 (by simp)).symm.trans h) (by simp)), (fun h => absurd ((HL.out.2 22 (by simp)).symm.trans h) (by simp))⟩)
          · exact (uW _)
          · exact (toV HV ⟨_, rfl, Blk.new _ _, hzW⟩)
        · obtain ⟨u5, ⟨g17, u17, b17, l17⟩⟩ := hV
          simp only [u5, u17]
          have U17 := Lib.hid u17
          clear u5 u17
          have hM := hI.2.1 (hL.2 18 (by simp))
          have HL := Lib.hid hL
          have HI := Lib.hid hI
          have HMW := Lib.hid hM
          have B17 := Lib.hid b17
          have hzW := hI.1.size
          have hbW : base ≤ W.heap.size := by have := hM.mine g (.inl rfl); omega
          have Hy : Hid (Rep.rd (fun z => z < W.heap.size ∧ ¬ WX base g v1 z ∧ (v1 3).ownBlock ≠ some z) W (⟨t1.peer s, p⟩ : Po) [.int .i64 (t1.peer s), .int .i64 p.epoch, .int .i64 p.number, .bool p.bare, .int .i64 p.ack, .int .i64 p.f.kind, .int .i64 p.f.heard, .int .i64 p.f.epoch, .slice oa p.f.op.length oc, .string p.f.text]) := by
            refine ⟨oa, oc, rfl, Hop.out.mono fun z hz => ?_, Hpe.out, Hff.out⟩
            obtain ⟨z1, z2, z3⟩ := hz
            exact ⟨⟨by omega, (fun h => by rcases h with h | h; omega; exact z3 h), fun h => z3 (.inr ⟨3, by omega, h⟩)⟩, (hI.1.block z (by omega) z3).trans (B2.out.block z z2)⟩
          clear hI hL b17 hM
          go_wp2_with (at_builtin; refine wpList_append_oneO rfl _ _ _ (by rfl) base 48 i0 _ 104 Tryd.underlying32 Hi.out Hz0.out Hz1.out Hz2.out rfl (v1 3) t1.posts (by rfl) (HMW.out.rows 3 (by omega)) g17 1 _ [.int .i64 (t1.peer s), .int .i64 p.epoch, .int .i64 p.number, .bool p.bare, .int .i64 p.ack, .int .i64 p.f.kind, .int .i64 p.f.heard, .int .i64 p.f.epoch, .slice oa p.f.op.length oc, .string p.f.text] ⟨t1.peer s, p⟩ (by rfl) B17.out Hy.out (by have := Hnx2.out; unfold maxLen; omega) (by have := Hnx2.out; omega) hbW ?_)
          intro g2 o2 cap w7 hown7 hgrow hat hlt7
          have HG := Lib.hid hgrow
          have HP : Hid (WkG base g (t1.post s [p]) v1 (fun q => if q = 3 then Value.slice (some ⟨g2, o2, none⟩) (t1.posts.length + 1) cap else v1 q) w7) := HMW.out.grow (t' := t1.post s [p]) (j := 3) (by omega) hgrow (fun k hk => by
            have e : g2 = k := by simpa [Value.ownBlock] using hk
            subst e
            exact hat) hown7 (fun i hi X v W h => by
              match i, hi with
              | 0, _ => exact h
              | 1, _ => exact h
              | 2, _ => exact h
              | 3, hi => exact absurd rfl hi
              | 4, _ => exact h
              | i + 5, _ => trivial) rfl HMW.out.fit
          have HT := Lib.hid (HI.out.1.grown hgrow (fun k hk => .inl (.inr ⟨3, by omega, hk⟩)))
          have Hat : Hid ((v1 3).ownBlock = some g2 ∨ wr.heap.size ≤ g2) := hat.imp_right fun h => by omega
          clear hgrow hown7 hat HI HMW B17 Hy
          go_wp2_with fail
          refine step3_done rfl ?_ ?_ ?_
          · exact (toI HIp ⟨HT.out, (fun h => absurd h (by simp [setB])), (fun _ _ => HP.out), (fun h : L 22 = true => absurd ((HL.out.2 22 (by simp)).symm.trans h) (by simp))⟩)
          · exact HG.out
          · exact (toV HV ⟨_, _, _, rfl, Hat.out⟩)
        · have u0 := hV
          clear hV
          simp only [u0]
          clear u0
          have HI := Lib.hid hI
          clear hI
          go_wp2_with fail
          refine step3_done rfl ?_ ?_ ?_
          · exact (toI HIp HI.out)
          · exact (Below.refl _ _)
          · exact (toV HV rfl)
        · have u19 := hV
          clear hV
          simp only [u19]
          clear u19
          have HI := Lib.hid hI
          clear hI
          go_wp2_with fail
          refine step3_done rfl ?_ ?_ ?_
          · exact (toI HIp HI.out)
          · exact (Below.refl _ _)
          · exact (toV HV rfl)
        · have u20 := hV
          clear hV
          simp only [u20]
          clear u20
          have HI := Lib.hid hI
          clear hI
          go_wp2_with fail
          refine step3_done rfl ?_ ?_ ?_
          · exact (toI HIp HI.out)
          · exact (Below.refl _ _)
          · exact (toV HV rfl)
        · obtain ⟨⟨g18, o18, c18, u18, n18⟩, u21⟩ := hV
          simp only [u18, u21]
          have U18 := Lib.hid u18
          clear u18 u21
          have hM := hI.2.2.1 (hL.1 18 (by simp)) (hL.2 22 (by simp))
          rw [U18.out] at hM
          have bM := hM.box
          obtain ⟨-, -, -, -, -, -, -, -, p8, -⟩ := blk10_cells bM
          have fW := bM.frozen
          have hlt := bM.lt
          have hmi := hM.mine
          have HL := Lib.hid hL
          have HI := Lib.hid hI
          have HMW := Lib.hid hM
          have HBM := Lib.hid bM
          clear hI hL hM bM hmi
          go_wp2_with fail
          have ht := touch1 (w := W) (g := g) (i := 8) (.slice (some ⟨g18, o18, none⟩) (t1.posts.length + 1) c18)
          refine step3_done (v := undef) rfl ?_ ?_ ?_
          · refine toI HIp ⟨HI.out.1.trans (ht.mono fun k _ hk => .inl hk), (fun h : L 18 = false => absurd ((HL.out.1 18 (by simp)).symm.trans h) (by simp)), (fun _ h => absurd h (by simp [setB])), (fun _ => ⟨_, HMW.out.put ht (HBM.out.set 8 _) (fun i X v W h => h) HMW.out.fit, ?_⟩)⟩
            rintro z (h | ⟨q, hq, h⟩)
            · exact .inl (.inl h)
            · by_cases e : q = 3
              · subst e
                simp only [if_true] at h
                have e : g18 = z := by simpa [Value.ownBlock] using h
                subst e
                rcases n18 with h | h
                · exact .inl (.inr ⟨3, by omega, h⟩)
                · exact .inr h
              · simp only [if_neg e] at h
                exact .inl (.inr ⟨q, hq, h⟩)
          · exact ht
          · exact toV HV rfl
      case fin =>
        intro x W L hL hI hV
        replace hI : (Touch (Mine g v1) w2 W ∧ (L 18 = false → WkM base g t1 v1 W) ∧ (L 18 = true → L 22 = false → WkG base g (t1.post s [p]) v1 (fun q => if q = 3 then x 18 else v1 q) W) ∧ (L 22 = true → ∃ v2, WkM base g (t1.post s [p]) v2 W ∧ ∀ z, Mine g v2 z → Mine g v1 z ∨ wr.heap.size ≤ z)) := ofI HIp hI
        rw [HV.out] at hV
        simp only [AllV, and_true] at hV
        obtain ⟨u0, u1, u2, u3, u4, u5, u6, u7, u8, u9, u10, u11, u12, u13, u14, u15, u16, ⟨g18, o18, c18, u18, n18⟩, u19, u20, u21, u22⟩ := hV
        simp only [getsD, List.getD_cons_succ, List.getD_cons_zero, List.length_cons, List.length_nil, List.range, List.range.loop, u0, u1, u2, u3, u4, u5, u6, u7, u8, u9, u10, u11, u12, u13, u14, u15, u16, u18, u19, u20, u21, u22, Act.put, List.setIfInBounds_toArray, List.set_cons_succ, List.set_cons_zero]
        clear u0 u1 u2 u3 u4 u5 u6 u7 u8 u9 u10 u11 u12 u13 u14 u15 u16 u18 u19 u20 u21 u22
        obtain ⟨v2, hM2, hm2⟩ := hI.2.2.2 (hL 22 (by simp))
        have hT := hI.1
        have HW : Hid (WkS base g (t.post s (ps.take (k + 1))) vs w W) := by
          rw [Hnx.out]
          exact WkS.trans HS1.out.1 HS1.out.2 ⟨v2, hM2, (Touch.of_below B2.out).trans hT, hm2⟩
        clear hI hL hM2 hm2 hT HS1
        go_wp2_with fail
        case roundEnd =>
          refine ⟨⟨k + 1, by omega, by push_cast; rfl, HW.out⟩, ?_⟩
          simp [intOf]
          omega
    · have hkn : k = N := by omega
      have hE : ps.take k = ps := by rw [hkn, ← HN.out, List.take_length]
      rw [hE] at m1
      have HW : Hid (WkS base g (t.post s ps) vs w wr) := ⟨v1, m1, ht1, hm1⟩
      have hlt' : ¬ ((k : Int) < (N : Int)) := by omega
      clear m1 ht1 hm1 hE
      go_wp2_with fail
      go_end0
      exact ⟨rfl, HW.out⟩
end Go.Proofs.YtkbfhgcjimfgkaaDoor
