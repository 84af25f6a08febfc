/- Two sides that meet: the calls of edit and hear, as the law uses them. -/
import Derived.Test.YtkhacogeffidoaaDoorPairEd
import Derived.Test.YtkhacogeffidoaaDoorPairHr
set_option linter.unusedVariables false
set_option linter.unusedSimpArgs false
namespace Go.Proofs.YtkhacogeffidoaaDoor
open Go.RowKit

theorem Meet.grow {u : Bool} {E E' : Int} {x y : Sd} (h : Meet u E x y) (hE : E ≤ E') : Meet u E' x y := by
  obtain ⟨c, L0, P0, L1, P1, a0, a1, k⟩ := h
  exact ⟨c, L0, P0, L1, P1, a0, a1, ⟨k.l0, k.l1, k.s0, k.s1, k.h1, k.h0, k.p0, k.p1, k.f1, k.f0, k.fit0, k.fit1, k.t0, k.t1, k.r0, k.r1, k.len, by have := k.many; omega, k.e0, k.e1, k.b0, k.b1⟩⟩
theorem Touch.of_below' {B : Nat} {w w' : World} (h : Below B w w') : Touch (fun z => B ≤ z) w w' := ⟨h.os, h.tape, h.output, h.size, fun k hk hs => h.block k (Nat.lt_of_not_le hs)⟩
theorem text_small {t : Str} (h : checkText t = 0) : t.size ≤ 70368744177664 := by
  obtain ⟨hv, hr⟩ := valid_of h
  have h2 := enc_size (rns t) (rns_vr hv)
  rw [enc_rns hv] at h2
  have h3 := rc_rns t
  omega
/-- after an edit of either side -/
def EditP (base g : Nat) (E : Int) (w : World) (e : Ending) (w' : World) : Prop := e = .returned (.bool true) ∧ (∃ x' y' vx' vy', Meet true (E + 1) x' y' ∧ PairM base g x' y' vx' vy' w') ∧ Below base w w'
theorem meet_edit0 (base g : Nat) (E : Int) (x y : Sd) (vx vy : Value) (l : List Raw) (a : Option Addr) (n c : Nat) (w : World) (hg : Good w) (h : PairM base g x y vx vy w) (hm : Meet true E x y) (hE : E + 1 ≤ 30) (hr : RdS (· < w.heap.size) w l a n c) :
    Calls Tryd.prog 37 #[.pointer (some ⟨g, 0, none⟩), .int .i64 0, .slice a n c] w (EditP base g E w) := by
  obtain ⟨t0, t1, q0, q1, q2, q3, q4, q5, e0, e1, n0, n1⟩ := hm.small (by omega)
  obtain ⟨o0, o1, o2, o3⟩ := mkOp_ok (rc x.t) l q0 (by omega)
  obtain ⟨h1, h2, h3⟩ := hm.edit hE (mkOp (rc x.t) l) o0 o1 (mkOp_ins _ l q0)
  refine (pair_edit0 base g x y vx vy l a n c w hg h hr (text_small t0) q0 (by omega) h1 h2 (by omega)).mono ?_
  rintro e w' ⟨rfl, ⟨v', h4⟩, hb⟩
  exact ⟨rfl, ⟨_, _, _, _, h3, h4⟩, hb⟩
theorem meet_edit1 (base g : Nat) (E : Int) (x y : Sd) (vx vy : Value) (l : List Raw) (a : Option Addr) (n c : Nat) (w : World) (hg : Good w) (h : PairM base g x y vx vy w) (hm : Meet true E x y) (hE : E + 1 ≤ 30) (hr : RdS (· < w.heap.size) w l a n c) :
    Calls Tryd.prog 37 #[.pointer (some ⟨g, 0, none⟩), .int .i64 1, .slice a n c] w (EditP base g E w) := by
  obtain ⟨t0, t1, q0, q1, q2, q3, q4, q5, e0, e1, n0, n1⟩ := hm.swap.small (by omega)
  obtain ⟨o0, o1, o2, o3⟩ := mkOp_ok (rc y.t) l q0 (by omega)
  obtain ⟨h1, h2, h3⟩ := hm.swap.edit hE (mkOp (rc y.t) l) o0 o1 (mkOp_ins _ l q0)
  refine (pair_edit1 base g x y vx vy l a n c w hg h hr (text_small t0) q0 (by omega) h1 h2 (by omega)).mono ?_
  rintro e w' ⟨rfl, ⟨v', h4⟩, hb⟩
  exact ⟨rfl, ⟨_, _, _, _, h3.swap, h4⟩, hb⟩
/-- after a side heard -/
def HearP (base g : Nat) (E : Int) (nx ny : Nat) (w : World) (e : Ending) (w' : World) : Prop := e = .returned (.bool true) ∧ (∃ x' y' vx' vy', Meet true E x' y' ∧ PairM base g x' y' vx' vy' w' ∧ x'.f.length = nx ∧ y'.f.length = ny) ∧ Below base w w'
theorem meet_hear0 (base g : Nat) (E : Int) (x y : Sd) (vx vy : Value) (w : World) (hg : Good w) (h : PairM base g x y vx vy w) (hm : Meet true E x y) (hE : E ≤ 30) :
    Calls Tryd.prog 38 #[.pointer (some ⟨g, 0, none⟩), .int .i64 0] w (HearP base g E x.f.length (y.f.length - 1) w) := by
  obtain ⟨t0, t1, q0, q1, q2, q3, q4, q5, e0, e1, n0, n1⟩ := hm.small hE
  cases hf : y.f with
  | nil =>
    refine (pair_none0 base g x y vx vy w h hf).mono ?_
    rintro e w' ⟨rfl, h4, hb⟩
    exact ⟨rfl, ⟨_, _, _, _, hm, h4, rfl, by rw [hf]; rfl⟩, hb⟩
  | cons f F =>
    obtain ⟨h1, h2, h3⟩ := hm.hear hE hf
    refine (pair_hear0 base g x y vx vy f F w hg h hf (text_small t0) e0 h1 h2).mono ?_
    rintro e w' ⟨rfl, ⟨v', h4⟩, hb⟩
    exact ⟨rfl, ⟨_, _, _, _, h3, h4, rfl, rfl⟩, hb⟩
theorem meet_hear1 (base g : Nat) (E : Int) (x y : Sd) (vx vy : Value) (w : World) (hg : Good w) (h : PairM base g x y vx vy w) (hm : Meet true E x y) (hE : E ≤ 30) :
    Calls Tryd.prog 38 #[.pointer (some ⟨g, 0, none⟩), .int .i64 1] w (HearP base g E (x.f.length - 1) y.f.length w) := by
  obtain ⟨t0, t1, q0, q1, q2, q3, q4, q5, e0, e1, n0, n1⟩ := hm.swap.small hE
  cases hf : x.f with
  | nil =>
    refine (pair_none1 base g x y vx vy w h hf).mono ?_
    rintro e w' ⟨rfl, h4, hb⟩
    exact ⟨rfl, ⟨_, _, _, _, hm, h4, by rw [hf]; rfl, rfl⟩, hb⟩
  | cons f F =>
    obtain ⟨h1, h2, h3⟩ := hm.swap.hear hE hf
    refine (pair_hear1 base g x y vx vy f F w hg h hf (text_small t0) e0 h1 h2).mono ?_
    rintro e w' ⟨rfl, ⟨v', h4⟩, hb⟩
    exact ⟨rfl, ⟨_, _, _, _, h3.swap, h4, rfl, rfl⟩, hb⟩
/-- two raw things in a new block -/
theorem raws_two {b : Nat} {r q : Raw} {T : Nat} {w : World} (h : Blk b (.cells #[.int .i64 r.kind, .int .i64 r.a, .int .i64 r.b, .int .i64 r.c, .string r.text, .int .i64 q.kind, .int .i64 q.a, .int .i64 q.b, .int .i64 q.c, .string q.text] T (0, 0)) w) (hr : r.ok) (hq : q.ok) : RdS (· < w.heap.size) w [r, q] (some ⟨b, 0, none⟩) 2 2 := by
  refine ⟨rfl, Nat.le_refl _, by unfold maxLen; omega, (fun h => by cases h), fun _ => ⟨b, 0, rfl, h.lt, h.lt, fun i x hx => ?_⟩⟩
  match i with
  | 0 =>
    have e : r = x := by simpa using hx
    subst e
    refine ⟨_, ⟨rfl, hr⟩, fun j u hu => ?_⟩
    match j with
    | 0 => simp [rawCells] at hu; rw [← hu]; exact h.cell 0
    | 1 => simp [rawCells] at hu; rw [← hu]; exact h.cell 1
    | 2 => simp [rawCells] at hu; rw [← hu]; exact h.cell 2
    | 3 => simp [rawCells] at hu; rw [← hu]; exact h.cell 3
    | 4 => simp [rawCells] at hu; rw [← hu]; exact h.cell 4
    | j + 5 => simp [rawCells] at hu
  | 1 =>
    have e : q = x := by simpa using hx
    subst e
    refine ⟨_, ⟨rfl, hq⟩, fun j u hu => ?_⟩
    match j with
    | 0 => simp [rawCells] at hu; rw [← hu]; exact h.cell 5
    | 1 => simp [rawCells] at hu; rw [← hu]; exact h.cell 6
    | 2 => simp [rawCells] at hu; rw [← hu]; exact h.cell 7
    | 3 => simp [rawCells] at hu; rw [← hu]; exact h.cell 8
    | 4 => simp [rawCells] at hu; rw [← hu]; exact h.cell 9
    | j + 5 => simp [rawCells] at hu
  | i + 2 => simp at hx
end Go.Proofs.YtkhacogeffidoaaDoor
