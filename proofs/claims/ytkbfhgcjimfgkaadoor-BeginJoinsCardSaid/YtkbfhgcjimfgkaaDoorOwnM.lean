/- A slice of the call's own that may begin within its row: many elements more. No condition. -/
import Derived.Test.YtkbfhgcjimfgkaaDoorFirst
set_option linter.unusedVariables false
set_option linter.unusedSimpArgs false
namespace Go.Proofs.YtkbfhgcjimfgkaaDoor
open Go.RowKit

/-- the cells of a list that reads -/
theorem Elems.cells {α : Type} [Rep α] {A : Nat → Prop} {w : World} {b : Nat} : ∀ (ls : List α) (off : Nat), Elems A w b off ls → ∃ ys : List Value, ys.length = ls.length * Rep.n α ∧ (∀ u ∈ ys, u.oneCell' = true) ∧ (∀ j u, ys[j]? = some u → w.cell? ⟨b, off + j, none⟩ = some u) ∧
    ∀ i x, ls[i]? = some x → ∃ zs, Rep.rd A w x zs ∧ ∀ j u, zs[j]? = some u → ys[i * Rep.n α + j]? = some u
  | [], _, _ => ⟨[], by simp, by simp, by simp, by simp⟩
  | x :: ls, off, h => by
    obtain ⟨zs, h1, h2⟩ := h 0 x rfl
    have hz := Rep.len h1
    obtain ⟨ys, y1, y2, y3, y4⟩ := Elems.cells ls (off + Rep.n α) (fun i q hq => by
      obtain ⟨qs, q1, q2⟩ := h (i + 1) q hq
      refine ⟨qs, q1, fun j u hu => ?_⟩
      have := q2 j u hu
      rwa [show off + (i + 1) * Rep.n α + j = off + Rep.n α + i * Rep.n α + j by rw [Nat.add_mul]; omega] at this)
    refine ⟨zs ++ ys, ?_, ?_, ?_, ?_⟩
    · rw [List.length_append, hz, y1, List.length_cons, Nat.add_mul]; omega
    · intro u hu
      rcases List.mem_append.1 hu with hu | hu
      · exact Rep.one h1 u hu
      · exact y2 u hu
    · intro j u hu
      by_cases hj : j < zs.length
      · rw [List.getElem?_append_left hj] at hu
        have := h2 j u hu
        rwa [Nat.zero_mul, Nat.add_zero] at this
      · rw [List.getElem?_append_right (by omega)] at hu
        have := y3 _ u hu
        rwa [show off + Rep.n α + (j - zs.length) = off + j by omega] at this
    · intro i q hq
      cases i with
      | zero =>
        simp at hq
        subst hq
        refine ⟨zs, h1, fun j u hu => ?_⟩
        have hj := (List.getElem?_eq_some_iff.1 hu).1
        rw [Nat.zero_mul, Nat.zero_add, List.getElem?_append_left hj]
        exact hu
      | succ i =>
        obtain ⟨qs, q1, q2⟩ := y4 i q hq
        refine ⟨qs, q1, fun j u hu => ?_⟩
        have := q2 j u hu
        rw [List.getElem?_append_right (by rw [hz, Nat.add_mul]; omega)]
        rwa [show (i + 1) * Rep.n α + j - zs.length = i * Rep.n α + j by rw [hz, Nat.add_mul]; omega]
/-- many elements more -/
theorem OwnO.appendMany {α : Type} [Rep α] {P : Program} {X : Nat → Prop} {base : Nat} {v : Value} {l ls : List α} {w : World} (h : OwnO X base v l w) (hbase : base ≤ w.heap.size)
    (t ty e : TypeId) (i : TypeInfo) (z : Value) (bytes : Nat) (ht : P.underlying t = some (.slice e)) (hi : P.info? e = some i) (hz : i.zero = some z) (hsize : i.size = Rep.n α) (hby : i.bytes = bytes) (hzs : z.cells.size = Rep.n α)
    (ad : Addr) (c : Nat) (ys : List Value) (hyl : ys.length = ls.length * Rep.n α) (hyo : ∀ u ∈ ys, u.oneCell' = true) (hnews : ∀ j u, ys[j]? = some u → w.cell? (ad.add j) = some u)
    (hy : ∀ i x, ls[i]? = some x → ∃ zs, Rep.rd (fun b => b < w.heap.size ∧ ¬ X b ∧ v.ownBlock ≠ some b) w x zs ∧ ∀ j u, zs[j]? = some u → ys[i * Rep.n α + j]? = some u)
    (hpos : 0 < ls.length) (h63 : l.length + ls.length ≤ maxLen) (hbytes : (l.length + ls.length) * bytes ≤ 140737488355328) :
    ∃ g off cap w', (Builtin.append_ #[t, t] ty #[v, .slice (some ad) ls.length c]).run P w = .ok (.slice (some ⟨g, off, none⟩) (l.length + ls.length) cap) w' ∧ OwnO X base (.slice (some ⟨g, off, none⟩) (l.length + ls.length) cap) (l ++ ls) w' ∧ w.grownBy w' v.ownBlock ∧ (v.ownBlock = some g ∨ w.heap.size ≤ g) ∧ g < w'.heap.size := by
  have hl1 : (l ++ ls).length = l.length + ls.length := by simp
  have key : ∀ v' w' (xs : List Value), w'.ownsRow w.heap.size e (Rep.n α) v' (l.length + ls.length) (xs ++ ys) → w.grownBy w' none → xs.length = l.length * Rep.n α →
      (∀ i x, l[i]? = some x → ∃ zs, Rep.rd (fun b => b < w.heap.size ∧ ¬ X b) w x zs ∧ ∀ j u, zs[j]? = some u → xs[i * Rep.n α + j]? = some u) →
      ∃ g off cap, v' = .slice (some ⟨g, off, none⟩) (l.length + ls.length) cap ∧ OwnO X base v' (l ++ ls) w' ∧ w.heap.size ≤ g ∧ g < w'.heap.size := by
    intro v' w' xs ho hg hxl hx
    rcases ho.2 with ⟨_, h0⟩ | ⟨g, cap, cur, hv, hb, hh, hnc, hcm, hsz, htk⟩
    · omega
    · have hblk : Blk g (.cells cur e (0, 0)) w' := hh
      have hcs := fun j u hu => ho.cells (g := g) (by rw [hv]; rfl) j u hu
      refine ⟨g, 0, cap, hv, ⟨.inr ⟨g, 0, cap, by rw [hl1]; exact hv, by omega, hblk.lt, by rw [hl1]; exact hnc, hcm, fun j hj => ⟨?_, hblk.frozen _⟩, fun i x hi => ?_⟩⟩, hb, hblk.lt⟩
      · rw [hblk.cell, Array.getElem?_eq_getElem (by omega)]; rfl
      · have hgo : ∀ b, (b < w.heap.size ∧ ¬ X b) → (b < w'.heap.size ∧ ¬ X b ∧ b ≠ g) ∧ w'.heap[b]? = w.heap[b]? := fun b hb2 =>
          ⟨⟨Nat.lt_of_lt_of_le hb2.1 hg.size, hb2.2, by omega⟩, hg.block b hb2.1 (by simp)⟩
        by_cases hil : i < l.length
        · rw [List.getElem?_append_left hil] at hi
          obtain ⟨zs, r1, r2⟩ := hx i x hi
          refine ⟨zs, Rep.mono hgo r1, fun j u hu => ?_⟩
          have h3 := r2 j u hu
          have := hcs (i * Rep.n α + j) u (by rw [List.getElem?_append_left (List.getElem?_eq_some_iff.1 h3).1]; exact h3)
          rw [Addr.add_lit, Nat.zero_add] at this
          rw [Nat.zero_add]; exact this
        · rw [List.getElem?_append_right (by omega)] at hi
          obtain ⟨zs, r1, r2⟩ := hy _ x hi
          refine ⟨zs, Rep.mono (fun b hb2 => hgo b ⟨hb2.1, hb2.2.1⟩) r1, fun j u hu => ?_⟩
          have h3 := r2 j u hu
          have hmm : i * Rep.n α = l.length * Rep.n α + (i - l.length) * Rep.n α := by rw [← Nat.add_mul]; congr 1; omega
          have := hcs (i * Rep.n α + j) u (by rw [List.getElem?_append_right (by omega), hxl, show i * Rep.n α + j - l.length * Rep.n α = (i - l.length) * Rep.n α + j by omega]; exact h3)
          rw [Addr.add_lit, Nat.zero_add] at this
          rw [Nat.zero_add]; exact this
  rcases h.row with ⟨a, hv, hl, h2⟩ | ⟨g, off, cap, hv, h1, h2, h3, h4, h5, h6⟩
  · subst hl hv
    cases a with
    | none =>
      obtain ⟨v', w', hrun, r1, r2, _⟩ := run_append_own (P := P) w w.heap.size t ty e i z (Rep.n α) bytes ht hi hz hsize hby hzs Rep.pos (.slice none 0 0) 0 [] (World.ownsRow_nil _ _ _ _) ad ls.length c ys hyl hnews hyo (by simpa using h63) (by simpa using hbytes) (Nat.le_refl _)
      have r2' : w.grownBy w' none := r2
      obtain ⟨g, off, cap, rfl, k1, k2, k5⟩ := key v' w' [] (by simpa using r1) r2' (by simp) (fun i x hi => by simp at hi)
      exact ⟨g, off, cap, w', hrun, k1, r2, .inr k2, k5⟩
    | some a' =>
      obtain ⟨v', w', hrun, r1, r2⟩ := run_append_arg_grows (P := P) (w := w) t ty e i z (Rep.n α) bytes ht hi hz hsize hby hzs Rep.pos a' 0 0 [] (by simp) (by intro _ _ h'; simp at h') ad ls.length c ys hyl hnews (by omega) (by simpa using h63) (by simpa using hbytes)
      obtain ⟨g, off, cap, rfl, k1, k2, k5⟩ := key v' w' [] (by simpa using r1) r2 (by simp) (fun i x hi => by simp at hi)
      exact ⟨g, off, cap, w', hrun, k1, ⟨r2.os, r2.tape, r2.output, r2.size, fun k hk _ => r2.block k hk (by simp)⟩, .inr k2, k5⟩
  · subst hv
    by_cases hr : l.length + ls.length ≤ cap
    · have hmul : l.length * Rep.n α + ls.length * Rep.n α ≤ cap * Rep.n α := by
        have := Nat.mul_le_mul_right (Rep.n α) hr
        rwa [Nat.add_mul] at this
      have hrun := run_append_room_cells (P := P) (w := w) t ty e i ht hi g off l.length cap ad ls.length c ys (by rw [hsize]; exact hyl) hnews hyo hr
        (fun j hj => by rw [hsize, Nat.add_assoc]; exact (h5 _ (by omega)).1) (fun j hj => by rw [hsize, Nat.add_assoc]; exact (h5 _ (by omega)).2)
      rw [hsize] at hrun
      have hgr := grownBy_setCells w g (off + l.length * Rep.n α) ys
      have hsome : ∀ j, j < ys.length → (w.cell? ⟨g, off + l.length * Rep.n α + j, none⟩).isSome = true := fun j hj => by rw [Nat.add_assoc]; exact (h5 _ (by omega)).1
      refine ⟨g, off, cap, _, hrun, ⟨.inr ⟨g, off, cap, by rw [hl1], h1, by rw [size_setCells']; exact h2, by rw [hl1]; exact hr, h4, fun j hj => ?_, fun i' x hi' => ?_⟩⟩, hgr, .inl rfl, by rw [size_setCells']; exact h2⟩
      · refine ⟨?_, by rw [World.frozen?_setCells]; exact (h5 j hj).2⟩
        by_cases hin : l.length * Rep.n α ≤ j ∧ j < l.length * Rep.n α + ys.length
        · have := World.cell?_setCells_in g ys (off + l.length * Rep.n α) w hsome (j - l.length * Rep.n α) (by omega)
          rw [show off + l.length * Rep.n α + (j - l.length * Rep.n α) = off + j from by omega] at this
          rw [this]; rfl
        · rw [World.cell?_setCells_out g ys _ w ⟨g, off + j, none⟩ (fun _ _ => by show off + j < _ ∨ _ ≤ off + j; omega)]
          exact (h5 j hj).1
      · have hgo : ∀ b, (b < w.heap.size ∧ ¬ X b ∧ b ≠ g) → (b < (w.setCells g (off + l.length * Rep.n α) ys).heap.size ∧ ¬ X b ∧ b ≠ g) ∧ (w.setCells g (off + l.length * Rep.n α) ys).heap[b]? = w.heap[b]? := fun b hb2 =>
          ⟨⟨by rw [size_setCells']; exact hb2.1, hb2.2⟩, World.heap_setCells_other w g _ ys hb2.1 hb2.2.2⟩
        by_cases hil : i' < l.length
        · rw [List.getElem?_append_left hil] at hi'
          obtain ⟨zs, r1, r2⟩ := h6 i' x hi'
          refine ⟨zs, Rep.mono hgo r1, fun j u hu => ?_⟩
          have hjl : j < Rep.n α := by have := (List.getElem?_eq_some_iff.1 hu).1; have := Rep.len r1; omega
          have hmm : i' * Rep.n α + Rep.n α ≤ l.length * Rep.n α := by
            have := Nat.mul_le_mul_right (Rep.n α) (show i' + 1 ≤ l.length from hil)
            rwa [Nat.add_mul, Nat.one_mul] at this
          rw [World.cell?_setCells_out g ys _ w ⟨g, off + i' * Rep.n α + j, none⟩ (fun _ _ => .inl (by show off + i' * Rep.n α + j < _; omega))]
          exact r2 j u hu
        · rw [List.getElem?_append_right (by omega)] at hi'
          obtain ⟨zs, r1, r2⟩ := hy _ x hi'
          refine ⟨zs, Rep.mono (fun b hb2 => hgo b ⟨hb2.1, hb2.2.1, fun e' => hb2.2.2 (by rw [e']; rfl)⟩) r1, fun j u hu => ?_⟩
          have h7 := r2 j u hu
          have hj := (List.getElem?_eq_some_iff.1 h7).1
          have hmm : i' * Rep.n α = l.length * Rep.n α + (i' - l.length) * Rep.n α := by rw [← Nat.add_mul]; congr 1; omega
          have := World.cell?_setCells_in g ys (off + l.length * Rep.n α) w hsome _ hj
          rw [show off + i' * Rep.n α + j = off + l.length * Rep.n α + ((i' - l.length) * Rep.n α + j) by omega, this, ← h7, List.getElem?_eq_getElem hj]
    · have hcell : ∀ j, j < l.length * Rep.n α → ∃ u, w.cell? ⟨g, off + j, none⟩ = some u := fun j hj => by
        have hle : l.length * Rep.n α ≤ cap * Rep.n α := Nat.mul_le_mul_right _ h3
        have := (h5 j (by omega)).1
        exact Option.isSome_iff_exists.1 this
      have hlist : ∃ olds : List Value, olds.length = l.length * Rep.n α ∧ ∀ j, j < l.length * Rep.n α → w.cell? ⟨g, off + j, none⟩ = olds[j]? := by
        refine ⟨(List.range (l.length * Rep.n α)).map fun j => (w.cell? ⟨g, off + j, none⟩).getD undef, by simp, fun j hj => ?_⟩
        obtain ⟨u, hu⟩ := hcell j hj
        rw [List.getElem?_map, List.getElem?_range hj]
        simp [hu]
      obtain ⟨olds, ho1, ho2⟩ := hlist
      obtain ⟨v', w', hrun, r1, r2⟩ := run_append_arg_grows (P := P) (w := w) t ty e i z (Rep.n α) bytes ht hi hz hsize hby hzs Rep.pos ⟨g, off, none⟩ l.length cap olds ho1 (fun j u hu => by rw [Addr.add_lit, ho2 j (by have := (List.getElem?_eq_some_iff.1 hu).1; omega)]; exact hu) ad ls.length c ys hyl hnews (by omega) h63 hbytes
      obtain ⟨g2, off2, cap2, rfl, k1, k2, k5⟩ := key v' w' olds r1 r2 ho1 (fun i x hi' => by
        obtain ⟨zs, q1, q2⟩ := h6 i x hi'
        refine ⟨zs, Rep.mono (fun b hb2 => ⟨⟨hb2.1, hb2.2.1⟩, rfl⟩) q1, fun j u hu => ?_⟩
        have hjl : j < Rep.n α := by have := (List.getElem?_eq_some_iff.1 hu).1; have := Rep.len q1; omega
        have hil := (List.getElem?_eq_some_iff.1 hi').1
        have hmm : i * Rep.n α + Rep.n α ≤ l.length * Rep.n α := by
          have := Nat.mul_le_mul_right (Rep.n α) (show i + 1 ≤ l.length from hil)
          rwa [Nat.add_mul, Nat.one_mul] at this
        rw [← ho2 _ (by omega), ← Nat.add_assoc]
        exact q2 j u hu)
      exact ⟨g2, off2, cap2, w', hrun, k1, ⟨r2.os, r2.tape, r2.output, r2.size, fun k hk _ => r2.block k hk (by simp)⟩, .inr k2, k5⟩
/-- .. as a law for the walk: what is appended reads as a list of at least one -/
theorem wpList_append_manyO {α : Type} [Rep α] {P : Program} {X : Nat → Prop} {w : World} {ops : Array Oper} {rest : List Oper} {o : Oper} {a : Act} {Q : Exit → Act → World → Prop} (hgd : o.guard = none) (s x : Operand) (t : TypeId)
    (ho : o.op = .call { callee := .builtin .append, args := #[s, x], argTypes := #[t, t] })
    (base : Nat) (e : TypeId) (i : TypeInfo) (z : Value) (bytes : Nat) (ht : P.underlying t = some (.slice e)) (hi : P.info? e = some i) (hz : i.zero = some z)
    (hsize : i.size = Rep.n α) (hby : i.bytes = bytes) (hzs : z.cells.size = Rep.n α)
    (v : Value) (l ls : List α) (hs : a.eval s = v) (hown : OwnO X base v l w)
    (gb off c : Nat) (hx : a.eval x = .slice (some ⟨gb, off, none⟩) ls.length c) (hrd : Elems (fun b => b < w.heap.size ∧ ¬ X b ∧ v.ownBlock ≠ some b) w gb off ls)
    (hpos : 0 < ls.length) (h63 : l.length + ls.length ≤ maxLen) (hbytes : (l.length + ls.length) * bytes ≤ 140737488355328) (hbase : base ≤ w.heap.size)
    (h : ∀ g off cap w', OwnO X base (.slice (some ⟨g, off, none⟩) (l.length + ls.length) cap) (l ++ ls) w' → w.grownBy w' v.ownBlock → (v.ownBlock = some g ∨ w.heap.size ≤ g) → g < w'.heap.size → wpList P ops Q rest (a.put o.dst (.slice (some ⟨g, off, none⟩) (l.length + ls.length) cap)) w') : wpList P ops Q (o :: rest) a w := by
  refine wpList_plain hgd fun K hK' => ?_
  obtain ⟨ys, y1, y2, y3, y4⟩ := Elems.cells ls off hrd
  obtain ⟨g, off', cap, w', hrun, r1, r2, r3, r4⟩ := hown.appendMany (P := P) hbase t o.type e i z bytes ht hi hz hsize hby hzs ⟨gb, off, none⟩ c ys y1 y2 (fun j u hu => by rw [Addr.add_lit]; exact y3 j u hu) y4 hpos h63 hbytes
  unfold Oper.wp
  simp [execOp, ho, resolve, invoke, builtin, hs, hx, hrun, Result.andThen]
  exact hK' _ _ (h g off' cap w' r1 r2 r3 r4)
end Go.Proofs.YtkbfhgcjimfgkaaDoor
