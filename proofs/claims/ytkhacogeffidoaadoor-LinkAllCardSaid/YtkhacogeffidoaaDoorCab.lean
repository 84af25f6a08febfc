/- A cable: two links and six growing slices in one block. No condition. -/
import Derived.Test.YtkhacogeffidoaaDoorLkBox
import Derived.Test.YtkhacogeffidoaaDoorOwnZ
set_option linter.unusedVariables false
set_option linter.unusedSimpArgs false
namespace Go.Proofs.YtkhacogeffidoaaDoor
open Go.RowKit

structure Cb where
  e0 : Lk
  e1 : Lk
  f0 : List Pkt
  f1 : List Pkt
  s0 : List Fr
  s1 : List Fr
  t0 : List Fr
  t1 : List Fr
theorem OwnO.keepX {α : Type} [Rep α] {X X' : Nat → Prop} {base : Nat} {v : Value} {l : List α} {w w' : World} (h : OwnO X base v l w) (hs : w.heap.size ≤ w'.heap.size) (hk : ∀ k, k < w.heap.size → (¬ X k ∨ v.ownBlock = some k) → w'.heap[k]? = w.heap[k]?) (hX : ∀ k, k < w.heap.size → X' k → X k) : OwnO X' base v l w' := by
  rcases h.row with ⟨a, hv, hl, h2⟩ | ⟨g, off, cap, hv, h1, h2, h3, h4, h5, h6⟩
  · exact ⟨.inl ⟨a, hv, hl, fun k hk => ⟨(h2 k hk).1, Nat.lt_of_lt_of_le (h2 k hk).2 hs⟩⟩⟩
  · have hg := hk g h2 (.inr (by rw [hv]; rfl))
    refine ⟨.inr ⟨g, off, cap, hv, h1, Nat.lt_of_lt_of_le h2 hs, h3, h4, fun j hj => ?_, h6.imp hg fun b hb => ⟨⟨Nat.lt_of_lt_of_le hb.1 hs, fun hx => hb.2.1 (hX b hb.1 hx), hb.2.2⟩, hk b hb.1 (.inl hb.2.1)⟩⟩⟩
    rw [cell_keep hg, World.frozen?_of_block (a := ⟨g, off + j, none⟩) hg]
    exact h5 j hj
/-- what neither the block nor a row holds -/
def Free (base g : Nat) (vs : Nat → Value) (w : World) (z : Nat) : Prop := base ≤ z ∧ z < w.heap.size ∧ z ≠ g ∧ ∀ i, i < 6 → (vs i).ownBlock ≠ some z
/-- what the elements of the j'th slice must not lie in -/
def OX (base g : Nat) (vs : Nat → Value) (j z : Nat) : Prop := z < base ∨ z = g ∨ ∃ i, i < 6 ∧ i ≠ j ∧ (vs i).ownBlock = some z
abbrev cabCells (c : Cb) (a0 : Option Addr) (c0 : Nat) (b0 : Option Addr) (d0 : Nat) (a1 : Option Addr) (c1 : Nat) (b1 : Option Addr) (d1 : Nat) (u : Nat → Value) : Array Value :=
  #[.int .i64 c.e0.epoch, .int .i64 c.e0.next, .slice a0 c.e0.sent.length c0, .slice b0 c.e0.queue.length d0, .int .i64 c.e0.heard, .int .i64 c.e1.epoch, .int .i64 c.e1.next, .slice a1 c.e1.sent.length c1, .slice b1 c.e1.queue.length d1, .int .i64 c.e1.heard, u 0, u 1, u 2, u 3, u 4, u 5]
structure CabG (base g : Nat) (c : Cb) (us vs : Nat → Value) (w : World) : Prop where
  box : ∃ a0 c0 b0 d0 a1 c1 b1 d1, Blk g (.cells (cabCells c a0 c0 b0 d0 a1 c1 b1 d1 us) 39 (0, 0)) w ∧ RdS (Free base g vs w) w c.e0.sent a0 c.e0.sent.length c0 ∧ RdS (Free base g vs w) w c.e0.queue b0 c.e0.queue.length d0 ∧ RdS (Free base g vs w) w c.e1.sent a1 c.e1.sent.length c1 ∧ RdS (Free base g vs w) w c.e1.queue b1 c.e1.queue.length d1
  o0 : OwnO (OX base g vs 0) base (vs 0) c.f0 w
  o1 : OwnO (OX base g vs 1) base (vs 1) c.f1 w
  o2 : OwnO (OX base g vs 2) base (vs 2) c.s0 w
  o3 : OwnO (OX base g vs 3) base (vs 3) c.s1 w
  o4 : OwnO (OX base g vs 4) base (vs 4) c.t0 w
  o5 : OwnO (OX base g vs 5) base (vs 5) c.t1 w
  gb : base ≤ g
  ne : ∀ i, i < 6 → ∀ z, (vs i).ownBlock = some z → z ≠ g
  di : ∀ i j, i < 6 → j < 6 → i ≠ j → ∀ z, (vs i).ownBlock = some z → (vs j).ownBlock ≠ some z
abbrev CabM (base g : Nat) (c : Cb) (vs : Nat → Value) (w : World) : Prop := CabG base g c vs vs w
section
variable {base g : Nat} {c : Cb} {us vs : Nat → Value} {w w' : World}
theorem CabG.lt (h : CabG base g c us vs w) : g < w.heap.size := by
  obtain ⟨_, _, _, _, _, _, _, _, b, -⟩ := h.box
  exact b.lt
theorem CabG.go (h : CabG base g c us vs w) (hb : Below w.heap.size w w') : CabG base g c us vs w' := by
  obtain ⟨a0, c0, b0, d0, a1, c1, b1, d1, b, r0, r1, r2, r3⟩ := h.box
  have hm : ∀ z, Free base g vs w z → Free base g vs w' z ∧ w'.heap[z]? = w.heap[z]? := fun z hz => ⟨⟨hz.1, Nat.lt_of_lt_of_le hz.2.1 hb.size, hz.2.2⟩, hb.block z hz.2.1⟩
  exact ⟨⟨a0, c0, b0, d0, a1, c1, b1, d1, b.go hb, r0.mono hm, r1.mono hm, r2.mono hm, r3.mono hm⟩, h.o0.go hb, h.o1.go hb, h.o2.go hb, h.o3.go hb, h.o4.go hb, h.o5.go hb, h.gb, h.ne, h.di⟩
theorem ox_other {vs : Nat → Value} {j : Nat} {v' : Value} {n : Nat} (hv : ∀ k, v'.ownBlock = some k → (vs j).ownBlock = some k ∨ n ≤ k) {i k : Nat} (hk : k < n) (h : OX base g (fun q => if q = j then v' else vs q) i k) : OX base g vs i k := by
  rcases h with h | h | ⟨q, hq, hqi, h⟩
  · exact .inl h
  · exact .inr (.inl h)
  · by_cases e : q = j
    · subst e
      simp only [if_true] at h
      rcases hv k h with h' | h'
      · exact .inr (.inr ⟨q, hq, hqi, h'⟩)
      · omega
    · simp only [if_neg e] at h
      exact .inr (.inr ⟨q, hq, hqi, h⟩)
/-- another slice than the j'th, when that one grew -/
theorem own_other {α : Type} [Rep α] {l : List α} {i j : Nat} {v' : Value} (hij : i ≠ j) (hj : j < 6) (di : ∀ i j, i < 6 → j < 6 → i ≠ j → ∀ z, (vs i).ownBlock = some z → (vs j).ownBlock ≠ some z) (hi : i < 6) (h : OwnO (OX base g vs i) base (vs i) l w) (hg : w.grownBy w' (vs j).ownBlock) (hv : ∀ k, v'.ownBlock = some k → (vs j).ownBlock = some k ∨ w.heap.size ≤ k) :
    OwnO (OX base g (fun q => if q = j then v' else vs q) i) base (if i = j then v' else vs i) l w' := by
  rw [if_neg hij]
  refine h.keepX hg.size (fun k hk hx => hg.block k hk fun e => ?_) (fun k hk hx => ox_other hv hk hx)
  rcases hx with hx | hx
  · exact hx (.inr (.inr ⟨j, hj, fun e' => hij e'.symm, e.symm⟩))
  · exact di i j hi hj hij k hx e.symm
/-- the j'th slice grew: what holds of all the rest -/
theorem CabG.grown {j : Nat} {v' : Value} (h : CabG base g c us vs w) (hj : j < 6) (hg : w.grownBy w' (vs j).ownBlock) (hv : ∀ k, v'.ownBlock = some k → (vs j).ownBlock = some k ∨ w.heap.size ≤ k) :
    (∃ a0 c0 b0 d0 a1 c1 b1 d1, Blk g (.cells (cabCells c a0 c0 b0 d0 a1 c1 b1 d1 us) 39 (0, 0)) w' ∧ RdS (Free base g (fun q => if q = j then v' else vs q) w') w' c.e0.sent a0 c.e0.sent.length c0 ∧ RdS (Free base g (fun q => if q = j then v' else vs q) w') w' c.e0.queue b0 c.e0.queue.length d0 ∧ RdS (Free base g (fun q => if q = j then v' else vs q) w') w' c.e1.sent a1 c.e1.sent.length c1 ∧ RdS (Free base g (fun q => if q = j then v' else vs q) w') w' c.e1.queue b1 c.e1.queue.length d1) ∧
    (∀ i, i < 6 → ∀ z, (if i = j then v' else vs i).ownBlock = some z → z ≠ g) ∧
    (∀ i k, i < 6 → k < 6 → i ≠ k → ∀ z, (if i = j then v' else vs i).ownBlock = some z → (if k = j then v' else vs k).ownBlock ≠ some z) := by
  obtain ⟨a0, c0, b0, d0, a1, c1, b1, d1, b, r0, r1, r2, r3⟩ := h.box
  have hl := h.lt
  have hm : ∀ z, Free base g vs w z → Free base g (fun q => if q = j then v' else vs q) w' z ∧ w'.heap[z]? = w.heap[z]? := fun z hz => ⟨⟨hz.1, Nat.lt_of_lt_of_le hz.2.1 hg.size, hz.2.2.1, fun i hi e => by
    by_cases e' : i = j
    · subst e'
      simp only [if_true] at e
      rcases hv z e with e' | e'
      · exact hz.2.2.2 i hi e'
      · have := hz.2.1; omega
    · simp only [if_neg e'] at e
      exact hz.2.2.2 i hi e⟩, hg.block z hz.2.1 (fun e => hz.2.2.2 j hj e.symm)⟩
  have hrow : ∀ i, i < 6 → ∀ z, (vs i).ownBlock = some z → z < w.heap.size := fun i hi z hz => by
    match i, hi with
    | 0, _ => exact (h.o0.rowlt z hz).2
    | 1, _ => exact (h.o1.rowlt z hz).2
    | 2, _ => exact (h.o2.rowlt z hz).2
    | 3, _ => exact (h.o3.rowlt z hz).2
    | 4, _ => exact (h.o4.rowlt z hz).2
    | 5, _ => exact (h.o5.rowlt z hz).2
    | i + 6, h => omega
  refine ⟨⟨a0, c0, b0, d0, a1, c1, b1, d1, b.grown hg (fun e => h.ne j hj g e.symm rfl), r0.mono hm, r1.mono hm, r2.mono hm, r3.mono hm⟩, fun i hi z hz => ?_, fun i k hi hk hik z hz e => ?_⟩
  · by_cases e : i = j
    · subst e
      rw [if_pos rfl] at hz
      rcases hv z hz with e' | e'
      · exact h.ne i hi z e'
      · omega
    · rw [if_neg e] at hz
      exact h.ne i hi z hz
  · by_cases e1 : i = j
    · have e2 : k ≠ j := fun e' => hik (by rw [e1, e'])
      rw [if_pos e1] at hz
      rw [if_neg e2] at e
      rcases hv z hz with e' | e'
      · exact h.di j k hj hk (fun q => e2 q.symm) z e' e
      · have := hrow k hk z e; omega
    · rw [if_neg e1] at hz
      by_cases e2 : k = j
      · rw [if_pos e2] at e
        rcases hv z e with e' | e'
        · exact h.di i j hi hj e1 z hz e'
        · have := hrow i hi z hz; omega
      · rw [if_neg e2] at e
        exact h.di i k hi hk hik z hz e
theorem ox_self {vs : Nat → Value} {j : Nat} {v' : Value} (z : Nat) : OX base g (fun q => if q = j then v' else vs q) j z ↔ OX base g vs j z := by
  unfold OX
  constructor
  · rintro (h | h | ⟨q, h1, h2, h3⟩)
    · exact .inl h
    · exact .inr (.inl h)
    · simp only [if_neg h2] at h3
      exact .inr (.inr ⟨q, h1, h2, h3⟩)
  · rintro (h | h | ⟨q, h1, h2, h3⟩)
    · exact .inl h
    · exact .inr (.inl h)
    · exact .inr (.inr ⟨q, h1, h2, by simp only [if_neg h2]; exact h3⟩)
theorem own_self {α : Type} [Rep α] {l : List α} {j : Nat} {v' : Value} (h : OwnO (OX base g vs j) base v' l w') : OwnO (OX base g (fun q => if q = j then v' else vs q) j) base (if j = j then v' else vs j) l w' := by
  rw [if_pos rfl]
  exact h.more fun k _ hx => (ox_self k).1 hx
/-- all but the block stands behind a store into it -/
theorem CabG.rest (h : CabG base g c us vs w) (ht : Touch (fun z => z = g) w w') : (∃ a0 c0 b0 d0 a1 c1 b1 d1, Blk g (.cells (cabCells c a0 c0 b0 d0 a1 c1 b1 d1 us) 39 (0, 0)) w ∧ RdS (Free base g vs w') w' c.e0.sent a0 c.e0.sent.length c0 ∧ RdS (Free base g vs w') w' c.e0.queue b0 c.e0.queue.length d0 ∧ RdS (Free base g vs w') w' c.e1.sent a1 c.e1.sent.length c1 ∧ RdS (Free base g vs w') w' c.e1.queue b1 c.e1.queue.length d1) ∧
    OwnO (OX base g vs 0) base (vs 0) c.f0 w' ∧ OwnO (OX base g vs 1) base (vs 1) c.f1 w' ∧ OwnO (OX base g vs 2) base (vs 2) c.s0 w' ∧ OwnO (OX base g vs 3) base (vs 3) c.s1 w' ∧ OwnO (OX base g vs 4) base (vs 4) c.t0 w' ∧ OwnO (OX base g vs 5) base (vs 5) c.t1 w' := by
  obtain ⟨a0, c0, b0, d0, a1, c1, b1, d1, b, r0, r1, r2, r3⟩ := h.box
  have hm : ∀ z, Free base g vs w z → Free base g vs w' z ∧ w'.heap[z]? = w.heap[z]? := fun z hz => ⟨⟨hz.1, Nat.lt_of_lt_of_le hz.2.1 ht.size, hz.2.2⟩, ht.block z hz.2.1 hz.2.2.1⟩
  have hx : ∀ j, j < 6 → ∀ k, k < w.heap.size → k = g → OX base g vs j k ∧ (vs j).ownBlock ≠ some k := fun j hj k _ hs => ⟨.inr (.inl hs), fun e => h.ne j hj k e hs⟩
  exact ⟨⟨a0, c0, b0, d0, a1, c1, b1, d1, b, r0.mono hm, r1.mono hm, r2.mono hm, r3.mono hm⟩, h.o0.touch ht (hx 0 (by omega)), h.o1.touch ht (hx 1 (by omega)), h.o2.touch ht (hx 2 (by omega)), h.o3.touch ht (hx 3 (by omega)), h.o4.touch ht (hx 4 (by omega)), h.o5.touch ht (hx 5 (by omega))⟩
theorem CabG.put {us' : Nat → Value} (h : CabG base g c us vs w) (ht : Touch (fun z => z = g) w w') (hb : ∀ a0 c0 b0 d0 a1 c1 b1 d1, Blk g (.cells (cabCells c a0 c0 b0 d0 a1 c1 b1 d1 us) 39 (0, 0)) w → Blk g (.cells (cabCells c a0 c0 b0 d0 a1 c1 b1 d1 us') 39 (0, 0)) w') : CabG base g c us' vs w' := by
  obtain ⟨⟨a0, c0, b0, d0, a1, c1, b1, d1, b, r0, r1, r2, r3⟩, o0, o1, o2, o3, o4, o5⟩ := h.rest ht
  exact ⟨⟨a0, c0, b0, d0, a1, c1, b1, d1, hb _ _ _ _ _ _ _ _ b, r0, r1, r2, r3⟩, o0, o1, o2, o3, o4, o5, h.gb, h.ne, h.di⟩
end
section
variable {base g : Nat} {c : Cb} {us vs : Nat → Value} {w w' : World}
theorem CabG.grow0 {v' : Value} {l' : List Pkt} (h : CabG base g c us vs w) (hg : w.grownBy w' (vs 0).ownBlock) (ho : OwnO (OX base g vs 0) base v' l' w') (hv : ∀ k, v'.ownBlock = some k → (vs 0).ownBlock = some k ∨ w.heap.size ≤ k) : CabG base g { c with f0 := l' } us (fun q => if q = 0 then v' else vs q) w' := by
  obtain ⟨hb, hn, hd⟩ := h.grown (j := 0) (by omega) hg hv
  exact ⟨hb, own_self ho, own_other (i := 1) (j := 0) (by omega) (by omega) h.di (by omega) h.o1 hg hv, own_other (i := 2) (j := 0) (by omega) (by omega) h.di (by omega) h.o2 hg hv, own_other (i := 3) (j := 0) (by omega) (by omega) h.di (by omega) h.o3 hg hv, own_other (i := 4) (j := 0) (by omega) (by omega) h.di (by omega) h.o4 hg hv, own_other (i := 5) (j := 0) (by omega) (by omega) h.di (by omega) h.o5 hg hv, h.gb, hn, hd⟩
theorem CabG.grow1 {v' : Value} {l' : List Pkt} (h : CabG base g c us vs w) (hg : w.grownBy w' (vs 1).ownBlock) (ho : OwnO (OX base g vs 1) base v' l' w') (hv : ∀ k, v'.ownBlock = some k → (vs 1).ownBlock = some k ∨ w.heap.size ≤ k) : CabG base g { c with f1 := l' } us (fun q => if q = 1 then v' else vs q) w' := by
  obtain ⟨hb, hn, hd⟩ := h.grown (j := 1) (by omega) hg hv
  exact ⟨hb, own_other (i := 0) (j := 1) (by omega) (by omega) h.di (by omega) h.o0 hg hv, own_self ho, own_other (i := 2) (j := 1) (by omega) (by omega) h.di (by omega) h.o2 hg hv, own_other (i := 3) (j := 1) (by omega) (by omega) h.di (by omega) h.o3 hg hv, own_other (i := 4) (j := 1) (by omega) (by omega) h.di (by omega) h.o4 hg hv, own_other (i := 5) (j := 1) (by omega) (by omega) h.di (by omega) h.o5 hg hv, h.gb, hn, hd⟩
theorem CabG.grow2 {v' : Value} {l' : List Fr} (h : CabG base g c us vs w) (hg : w.grownBy w' (vs 2).ownBlock) (ho : OwnO (OX base g vs 2) base v' l' w') (hv : ∀ k, v'.ownBlock = some k → (vs 2).ownBlock = some k ∨ w.heap.size ≤ k) : CabG base g { c with s0 := l' } us (fun q => if q = 2 then v' else vs q) w' := by
  obtain ⟨hb, hn, hd⟩ := h.grown (j := 2) (by omega) hg hv
  exact ⟨hb, own_other (i := 0) (j := 2) (by omega) (by omega) h.di (by omega) h.o0 hg hv, own_other (i := 1) (j := 2) (by omega) (by omega) h.di (by omega) h.o1 hg hv, own_self ho, own_other (i := 3) (j := 2) (by omega) (by omega) h.di (by omega) h.o3 hg hv, own_other (i := 4) (j := 2) (by omega) (by omega) h.di (by omega) h.o4 hg hv, own_other (i := 5) (j := 2) (by omega) (by omega) h.di (by omega) h.o5 hg hv, h.gb, hn, hd⟩
theorem CabG.grow3 {v' : Value} {l' : List Fr} (h : CabG base g c us vs w) (hg : w.grownBy w' (vs 3).ownBlock) (ho : OwnO (OX base g vs 3) base v' l' w') (hv : ∀ k, v'.ownBlock = some k → (vs 3).ownBlock = some k ∨ w.heap.size ≤ k) : CabG base g { c with s1 := l' } us (fun q => if q = 3 then v' else vs q) w' := by
  obtain ⟨hb, hn, hd⟩ := h.grown (j := 3) (by omega) hg hv
  exact ⟨hb, own_other (i := 0) (j := 3) (by omega) (by omega) h.di (by omega) h.o0 hg hv, own_other (i := 1) (j := 3) (by omega) (by omega) h.di (by omega) h.o1 hg hv, own_other (i := 2) (j := 3) (by omega) (by omega) h.di (by omega) h.o2 hg hv, own_self ho, own_other (i := 4) (j := 3) (by omega) (by omega) h.di (by omega) h.o4 hg hv, own_other (i := 5) (j := 3) (by omega) (by omega) h.di (by omega) h.o5 hg hv, h.gb, hn, hd⟩
theorem CabG.grow4 {v' : Value} {l' : List Fr} (h : CabG base g c us vs w) (hg : w.grownBy w' (vs 4).ownBlock) (ho : OwnO (OX base g vs 4) base v' l' w') (hv : ∀ k, v'.ownBlock = some k → (vs 4).ownBlock = some k ∨ w.heap.size ≤ k) : CabG base g { c with t0 := l' } us (fun q => if q = 4 then v' else vs q) w' := by
  obtain ⟨hb, hn, hd⟩ := h.grown (j := 4) (by omega) hg hv
  exact ⟨hb, own_other (i := 0) (j := 4) (by omega) (by omega) h.di (by omega) h.o0 hg hv, own_other (i := 1) (j := 4) (by omega) (by omega) h.di (by omega) h.o1 hg hv, own_other (i := 2) (j := 4) (by omega) (by omega) h.di (by omega) h.o2 hg hv, own_other (i := 3) (j := 4) (by omega) (by omega) h.di (by omega) h.o3 hg hv, own_self ho, own_other (i := 5) (j := 4) (by omega) (by omega) h.di (by omega) h.o5 hg hv, h.gb, hn, hd⟩
theorem CabG.grow5 {v' : Value} {l' : List Fr} (h : CabG base g c us vs w) (hg : w.grownBy w' (vs 5).ownBlock) (ho : OwnO (OX base g vs 5) base v' l' w') (hv : ∀ k, v'.ownBlock = some k → (vs 5).ownBlock = some k ∨ w.heap.size ≤ k) : CabG base g { c with t1 := l' } us (fun q => if q = 5 then v' else vs q) w' := by
  obtain ⟨hb, hn, hd⟩ := h.grown (j := 5) (by omega) hg hv
  exact ⟨hb, own_other (i := 0) (j := 5) (by omega) (by omega) h.di (by omega) h.o0 hg hv, own_other (i := 1) (j := 5) (by omega) (by omega) h.di (by omega) h.o1 hg hv, own_other (i := 2) (j := 5) (by omega) (by omega) h.di (by omega) h.o2 hg hv, own_other (i := 3) (j := 5) (by omega) (by omega) h.di (by omega) h.o3 hg hv, own_other (i := 4) (j := 5) (by omega) (by omega) h.di (by omega) h.o4 hg hv, own_self ho, h.gb, hn, hd⟩
end
end Go.Proofs.YtkhacogeffidoaaDoor
