/- One side of a turn's node is written anew, in part. No condition. -/
import Derived.Test.YtkbfhgcjimfgkaaDoorPost
import Derived.Deep.MidRow
set_option linter.unusedVariables false
set_option linter.unusedSimpArgs false
namespace Go.Proofs.YtkbfhgcjimfgkaaDoor
open Go.RowKit

/-- an element of a slice of the call's own, written in part -/
theorem OwnO.upd {α : Type} [Rep α] {X : Nat → Prop} {base r o n c : Nat} {l : List α} {w : World} (h : OwnO X base (.slice (some ⟨r, o, none⟩) n c) l w) (i : Nat) (hi : i < l.length) (d : Nat) (cs : List Value) (hd : d + cs.length ≤ Rep.n α) (y : α)
    (hy : ∀ xs, Rep.rd (fun b => b < w.heap.size ∧ ¬ X b ∧ b ≠ r) w l[i] xs → ∃ ys, Rep.rd (fun b => b < w.heap.size ∧ ¬ X b ∧ b ≠ r) w y ys ∧ ∀ j v, ys[j]? = some v → if d ≤ j ∧ j < d + cs.length then cs[j - d]? = some v else xs[j]? = some v) :
    OwnO X base (.slice (some ⟨r, o, none⟩) n c) (l.set i y) (w.setCells r (o + i * Rep.n α + d) cs) := by
  have hT := touch_setCells w r (o + i * Rep.n α + d) cs
  rcases h.row with ⟨a, hv, hl, h2⟩ | ⟨g', off', cap, hv, h1, h2, h3, h4, h5, h6⟩
  · subst hl; simp at hi
  · injection hv with e1 e2 e3
    injection e1 with e1
    injection e1 with e4 e5
    subst e2 e3 e4 e5
    have hA : ∀ b, (b < w.heap.size ∧ ¬ X b ∧ b ≠ r) → (b < (w.setCells r (o + i * Rep.n α + d) cs).heap.size ∧ ¬ X b ∧ b ≠ r) ∧ (w.setCells r (o + i * Rep.n α + d) cs).heap[b]? = w.heap[b]? := fun b hb => ⟨⟨Nat.lt_of_lt_of_le hb.1 hT.size, hb.2⟩, hT.block b hb.1 hb.2.2⟩
    have hmul : ∀ {a b : Nat}, a < b → a * Rep.n α + Rep.n α ≤ b * Rep.n α := fun {a b} hab => by
      have := Nat.mul_le_mul_right (Rep.n α) (Nat.succ_le_of_lt hab)
      rwa [Nat.succ_mul] at this
    have hic : i * Rep.n α + Rep.n α ≤ c * Rep.n α := hmul (by omega)
    have hin : ∀ j, j < cs.length → (w.cell? ⟨r, o + i * Rep.n α + d + j, none⟩).isSome = true := fun j hj => by
      have := (h5 (i * Rep.n α + d + j) (by omega)).1
      rwa [← Nat.add_assoc, ← Nat.add_assoc] at this
    refine ⟨.inr ⟨r, o, c, by rw [List.length_set], h1, Nat.lt_of_lt_of_le h2 hT.size, by rw [List.length_set]; exact h3, h4, fun j hj => ⟨World.isSome_setCells r cs _ w _ (h5 j hj).1, by rw [World.frozen?_setCells]; exact (h5 j hj).2⟩, fun j x hx => ?_⟩⟩
    by_cases hji : j = i
    · subst hji
      rw [List.getElem?_set_self hi] at hx
      injection hx with hx
      subst hx
      obtain ⟨xs, r1, r2⟩ := h6 j l[j] (List.getElem?_eq_getElem hi)
      obtain ⟨ys, q1, q2⟩ := hy xs r1
      refine ⟨ys, Rep.mono hA q1, fun k v hk => ?_⟩
      have hq := q2 k v hk
      by_cases hkd : d ≤ k ∧ k < d + cs.length
      · rw [if_pos hkd] at hq
        have e : o + j * Rep.n α + k = o + j * Rep.n α + d + (k - d) := by omega
        rw [e, World.cell?_setCells_in r cs _ w hin (k - d) (by omega), ← hq, List.getElem?_eq_getElem (by omega)]
      · rw [if_neg hkd] at hq
        rw [World.cell?_setCells_out r cs _ w _ (fun _ _ => by show o + j * Rep.n α + k < _ ∨ _ ≤ o + j * Rep.n α + k; omega)]
        exact r2 k v hq
    · rw [List.getElem?_set_ne (by omega)] at hx
      obtain ⟨xs, r1, r2⟩ := h6 j x hx
      have hlen := Rep.len r1
      refine ⟨xs, Rep.mono hA r1, fun k v hk => ?_⟩
      have hkl := (List.getElem?_eq_some_iff.1 hk).1
      rw [World.cell?_setCells_out r cs _ w _ (fun _ _ => by
        show o + j * Rep.n α + k < _ ∨ _ ≤ o + j * Rep.n α + k
        rcases Nat.lt_or_gt_of_ne hji with hlt | hgt
        · have := hmul hlt; omega
        · have := hmul hgt; omega)]
      exact r2 k v hk
def Tn.setSide (t : Tn) (s : Nat) (y : Sd) : Tn := { t with node := { t.node with sides := t.node.sides.set s y } }
theorem WkG.upd {base g r o c : Nat} {t : Tn} {vs : Nat → Value} {w : World} (h : WkM base g t vs w) (s : Nat) (hs : s < t.node.sides.length) (hv : vs 0 = .slice (some ⟨r, o, none⟩) t.node.sides.length c) (d : Nat) (cs : List Value) (hd : d + cs.length ≤ 10) (y : Sd)
    (hy : ∀ xs, Rep.rd (fun b => b < w.heap.size ∧ ¬ WX base g vs b ∧ b ≠ r) w t.node.sides[s] xs → ∃ ys, Rep.rd (fun b => b < w.heap.size ∧ ¬ WX base g vs b ∧ b ≠ r) w y ys ∧ ∀ j v, ys[j]? = some v → if d ≤ j ∧ j < d + cs.length then cs[j - d]? = some v else xs[j]? = some v) :
    WkM base g (t.setSide s y) vs (w.setCells r (o + s * 10 + d) cs) ∧ Touch (Mine g vs) w (w.setCells r (o + s * 10 + d) cs) := by
  have h0 : OwnO (WX base g vs) base (vs 0) t.node.sides w := h.rows 0 (by omega)
  rw [hv] at h0
  have hr : (vs 0).ownBlock = some r := by rw [hv]; rfl
  have hn := h0.upd s hs d cs hd y hy
  have hg := grownBy_setCells w r (o + s * 10 + d) cs
  have k := h.grow (t' := t.setSide s y) (j := 0) (v' := vs 0) (by omega) (by rw [hr]; exact hg) (fun k hk => .inl hk) (by rw [hv]; exact hn) (fun i hi X v W h => by
    match i, hi with
    | 0, hi => exact absurd rfl hi
    | 1, _ => exact h
    | 2, _ => exact h
    | 3, _ => exact h
    | 4, _ => exact h
    | i + 5, _ => trivial) rfl h.fit
  have e : (fun q => if q = 0 then vs 0 else vs q) = vs := by
    funext q
    by_cases e : q = 0
    · rw [if_pos e, e]
    · rw [if_neg e]
  rw [e] at k
  exact ⟨k, (touch_setCells w r (o + s * 10 + d) cs).mono fun z _ hz => .inr ⟨0, by omega, by rw [hr, hz]⟩⟩
def noSd : Sd := ⟨0, false, ⟨0, 0, []⟩, ⟨0, 0, [], [], 0⟩⟩
def Tn.side (t : Tn) (s : Nat) : Sd := t.node.sides.getD s noSd
theorem Tn.side_get (t : Tn) (s : Nat) (hs : s < t.node.sides.length) : t.side s = t.node.sides[s] := by
  unfold Tn.side
  rw [List.getD_eq_getElem?_getD, List.getElem?_eq_getElem hs]
  rfl
/-- the link of a side -/
theorem WkG.updLink {base g r o c : Nat} {t : Tn} {vs : Nat → Value} {w : World} (h : WkM base g t vs w) (s : Nat) (hs : s < t.node.sides.length) (hv : vs 0 = .slice (some ⟨r, o, none⟩) t.node.sides.length c) (l : Lk) (hl : l.fits) (sa : Option Addr) (sc : Nat) (qa : Option Addr) (qc : Nat)
    (h1 : RdS (fun b => b < w.heap.size ∧ ¬ WX base g vs b ∧ b ≠ r) w l.sent sa l.sent.length sc) (h2 : RdS (fun b => b < w.heap.size ∧ ¬ WX base g vs b ∧ b ≠ r) w l.queue qa l.queue.length qc) :
    WkM base g (t.setSide s { t.side s with l := l }) vs (w.setCells r (o + s * 10 + 5) [.int .i64 l.epoch, .int .i64 l.next, .slice sa l.sent.length sc, .slice qa l.queue.length qc, .int .i64 l.heard]) ∧ Touch (Mine g vs) w (w.setCells r (o + s * 10 + 5) [.int .i64 l.epoch, .int .i64 l.next, .slice sa l.sent.length sc, .slice qa l.queue.length qc, .int .i64 l.heard]) := by
  refine h.upd s hs hv 5 _ (by simp) _ fun xs hx => ?_
  obtain ⟨a, ac, _, _, _, _, rfl, p1, -, -, p4, p5, -⟩ := hx
  rw [t.side_get s hs]
  refine ⟨_, ⟨a, ac, sa, sc, qa, qc, rfl, p1, h1, h2, p4, p5, hl⟩, fun j v hj => ?_⟩
  match j with
  | 0 | 1 | 2 | 3 | 4 | 5 | 6 | 7 | 8 | 9 => exact hj
  | j + 10 => cases hj
end Go.Proofs.YtkbfhgcjimfgkaaDoor
