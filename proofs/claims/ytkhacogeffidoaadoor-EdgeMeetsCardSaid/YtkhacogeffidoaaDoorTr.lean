/- What stands while two operations are walked through, and two (or one) are built. -/
import Derived.Test.YtkhacogeffidoaaDoorPass
import Derived.Test.YtkhacogeffidoaaDoorBuild
import Derived.Test.YtkhacogeffidoaaDoorBoth
set_option linter.unusedVariables false
set_option linter.unusedSimpArgs false
namespace Go.Proofs.YtkhacogeffidoaaDoor
open Go.RowKit

theorem remOf_ok {la : List P} {k n : Nat} (h : AllOk la) (hl : ∀ p, la[k]? = some p → n < p.z) : AllOk (remOf la k n) := by
  unfold remOf
  cases hd : la.drop k with
  | nil => exact allOk_nil
  | cons p r =>
    have hk : k < la.length := by
      rcases Nat.lt_or_ge k la.length with h' | h'
      · exact h'
      · rw [List.drop_of_length_le h'] at hd; cases hd
    have hp : la[k]? = some p := by
      rw [List.drop_eq_getElem_cons hk] at hd
      rw [List.getElem?_eq_getElem hk]
      injection hd with hd _
      rw [hd]
    have hr : ∀ q ∈ r, q ∈ la := fun q hq => List.mem_of_mem_drop (by rw [hd]; exact List.mem_cons_of_mem _ hq)
    exact allOk_cons.2 ⟨P.cut_ok (h p (List.mem_of_getElem? hp)) (hl p hp), fun q hq => h q (hr q hq)⟩
theorem headV_form (l : List P) : ∃ (k n : Int) (s : Str) (b : Bool), headV l = .tuple #[.agg #[.int .i64 k, .int .i64 n, .string s], .bool b] := by
  cases l with
  | nil => exact ⟨_, _, _, _, rfl⟩
  | cons p l => exact ⟨_, _, _, _, rfl⟩
theorem Wk.rem_ok {D b : Nat} {la : List P} {k n : Nat} {w : World} (h : Wk D b la k n w) : AllOk (remOf la k n) := remOf_ok h.ok h.lt
theorem Wk.touch {D b : Nat} {la : List P} {k n : Nat} {w w' : World} {S : Nat → Prop} (h : Wk D b la k n w) (ht : Touch S w w') (hs : ∀ z, S z → D ≤ z ∧ z ≠ b) : Wk D b la k n w' := by
  obtain ⟨a, c, h1, h2⟩ := h.ex
  have hbl := h1.lt
  have hdb := h.db
  exact ⟨⟨a, c, h1.touch ht (fun e => (hs b e).2 rfl), h2.mono fun z hz => ⟨hz, ht.block z (by omega) (fun e => by have := hs z e; omega)⟩⟩, h.db, h.ok, h.len, h.f, h.t, h.le, h.lt, h.n0⟩

/-- the two walkers (blocks B, B + 1), the two builders (B + 2, B + 3), two parts at hand (S, T) -/
structure Env (w : World) (B S T : Nat) (la lb : List P) (kx nx ky ny : Nat) (Rp Rq : List P) (vp vq : Value) (cs ct : Obj) (W : World) : Prop where
  x : Wk B B la kx nx W
  y : Wk B (B + 1) lb ky ny W
  p : Bd B (B + 4) (B + 2) Rp vp W
  q : Bd B (B + 4) (B + 3) Rq vq W
  apart : ∀ g, vp.ownBlock = some g → vq.ownBlock ≠ some g
  loc : ∀ g, (vp.ownBlock = some g ∨ vq.ownBlock = some g) → g ≠ S ∧ g ≠ T
  s : Blk S cs W
  t : Blk T ct W
  st : B + 4 ≤ S ∧ B + 4 ≤ T
  below : Below w.heap.size w W
  wb : w.heap.size ≤ B
section
variable {w W W' : World} {B S T : Nat} {la lb : List P} {kx nx ky ny : Nat} {Rp Rq : List P} {vp vq : Value} {cs ct : Obj} {e : Ending}
theorem Env.sz (h : Env w B S T la lb kx nx ky ny Rp Rq vp vq cs ct W) : B + 4 < W.heap.size := by have := h.s.lt; have := h.st; omega
theorem Env.go (h : Env w B S T la lb kx nx ky ny Rp Rq vp vq cs ct W) (hb : Below W.heap.size W W') : Env w B S T la lb kx nx ky ny Rp Rq vp vq cs ct W' :=
  ⟨h.x.go hb, h.y.go hb, h.p.go hb, h.q.go hb, h.apart, h.loc, h.s.go hb, h.t.go hb, h.st, up h.below hb, h.wb⟩
theorem Env.putP {R : List P} (h : Env w B S T la lb kx nx ky ny Rp Rq vp vq cs ct W) (ha : AddB B (B + 4) (B + 2) R vp W e W') : e = .returned (.tuple #[]) ∧ ∃ vp', Env w B S T la lb kx nx ky ny R Rq vp' vq cs ct W' := by
  obtain ⟨v', he, hp, ht, hv⟩ := ha
  have hsz := h.sz
  have hrow := h.p.row
  have hS : ∀ z, Bag.S (B + 2) vp z → z = B + 2 ∨ (B + 4 ≤ z ∧ vp.ownBlock = some z) := fun z hz => by
    rcases hz with h' | h'
    · exact .inl h'
    · exact .inr ⟨hrow z h', h'⟩
  have hnew : ∀ g, v'.ownBlock = some g → vp.ownBlock = some g ∨ W.heap.size ≤ g := fun g hg => by
    rcases hv with hv | hv
    · exact .inl (by rw [← hv]; exact hg)
    · exact .inr (hv g hg)
  refine ⟨he, v', h.x.touch ht (fun z hz => by have := hS z hz; omega), h.y.touch ht (fun z hz => by have := hS z hz; omega), hp, h.q.touch ht ?_ ?_, ?_, ?_, h.s.touch ht ?_, h.t.touch ht ?_, h.st, ?_, h.wb⟩
  · intro hz; have := hS _ hz; omega
  · intro g hg hz
    rcases hS _ hz with h' | h'
    · have := h.q.row g hg; omega
    · exact h.apart g h'.2 hg
  · intro g hg hq
    rcases hnew g hg with h' | h'
    · exact h.apart g h' hq
    · have := (h.q.bag.rowlt g hq).2; omega
  · intro g hg
    rcases hg with hg | hg
    · rcases hnew g hg with h' | h'
      · exact h.loc g (.inl h')
      · have := h.s.lt; have := h.t.lt; omega
    · exact h.loc g (.inr hg)
  · intro hz
    rcases hS _ hz with h' | h'
    · have := h.st; omega
    · exact (h.loc _ (.inl h'.2)).1 rfl
  · intro hz
    rcases hS _ hz with h' | h'
    · have := h.st; omega
    · exact (h.loc _ (.inl h'.2)).2 rfl
  · exact h.below.trans (ht.toBelow h.below.size (fun k hk => by have := hS k hk; have := h.wb; omega))
theorem Env.putQ {R : List P} (h : Env w B S T la lb kx nx ky ny Rp Rq vp vq cs ct W) (ha : AddB B (B + 4) (B + 3) R vq W e W') : e = .returned (.tuple #[]) ∧ ∃ vq', Env w B S T la lb kx nx ky ny Rp R vp vq' cs ct W' := by
  obtain ⟨v', he, hp, ht, hv⟩ := ha
  have hsz := h.sz
  have hrow := h.q.row
  have hS : ∀ z, Bag.S (B + 3) vq z → z = B + 3 ∨ (B + 4 ≤ z ∧ vq.ownBlock = some z) := fun z hz => by
    rcases hz with h' | h'
    · exact .inl h'
    · exact .inr ⟨hrow z h', h'⟩
  have hnew : ∀ g, v'.ownBlock = some g → vq.ownBlock = some g ∨ W.heap.size ≤ g := fun g hg => by
    rcases hv with hv | hv
    · exact .inl (by rw [← hv]; exact hg)
    · exact .inr (hv g hg)
  refine ⟨he, v', h.x.touch ht (fun z hz => by have := hS z hz; omega), h.y.touch ht (fun z hz => by have := hS z hz; omega), h.p.touch ht ?_ ?_, hp, ?_, ?_, h.s.touch ht ?_, h.t.touch ht ?_, h.st, ?_, h.wb⟩
  · intro hz; have := hS _ hz; omega
  · intro g hg hz
    rcases hS _ hz with h' | h'
    · have := h.p.row g hg; omega
    · exact h.apart g hg h'.2
  · intro g hg hq
    rcases hnew g hq with h' | h'
    · exact h.apart g hg h'
    · have := (h.p.bag.rowlt g hg).2; omega
  · intro g hg
    rcases hg with hg | hg
    · exact h.loc g (.inl hg)
    · rcases hnew g hg with h' | h'
      · exact h.loc g (.inr h')
      · have := h.s.lt; have := h.t.lt; omega
  · intro hz
    rcases hS _ hz with h' | h'
    · have := h.st; omega
    · exact (h.loc _ (.inr h'.2)).1 rfl
  · intro hz
    rcases hS _ hz with h' | h'
    · have := h.st; omega
    · exact (h.loc _ (.inr h'.2)).2 rfl
  · exact h.below.trans (ht.toBelow h.below.size (fun k hk => by have := hS k hk; have := h.wb; omega))
theorem Env.touchLow {b : Nat} (h : Env w B S T la lb kx nx ky ny Rp Rq vp vq cs ct W) (ht : Touch (fun z => z = b) W W') (hb : b = B ∨ b = B + 1) :
    Bd B (B + 4) (B + 2) Rp vp W' ∧ Bd B (B + 4) (B + 3) Rq vq W' ∧ Blk S cs W' ∧ Blk T ct W' ∧ Below w.heap.size w W' := by
  have hst := h.st
  have hwb := h.wb
  refine ⟨h.p.touch ht (by omega) (fun g hg => by have := h.p.row g hg; omega), h.q.touch ht (by omega) (fun g hg => by have := h.q.row g hg; omega), h.s.touch ht (by omega), h.t.touch ht (by omega), h.below.trans (ht.toBelow h.below.size (fun k hk => by have hk' : k = b := hk; omega))⟩
theorem Env.passX {kx' nx' : Nat} (h : Env w B S T la lb kx nx ky ny Rp Rq vp vq cs ct W) (ht : Touch (fun z => z = B) W W') (hx : Wk B B la kx' nx' W') : Env w B S T la lb kx' nx' ky ny Rp Rq vp vq cs ct W' := by
  obtain ⟨h1, h2, h3, h4, h5⟩ := h.touchLow ht (.inl rfl)
  exact ⟨hx, h.y.touch ht (fun z hz => by have hz' : z = B := hz; omega), h1, h2, h.apart, h.loc, h3, h4, h.st, h5, h.wb⟩
theorem Env.passY {ky' ny' : Nat} (h : Env w B S T la lb kx nx ky ny Rp Rq vp vq cs ct W) (ht : Touch (fun z => z = B + 1) W W') (hy : Wk B (B + 1) lb ky' ny' W') : Env w B S T la lb kx nx ky' ny' Rp Rq vp vq cs ct W' := by
  obtain ⟨h1, h2, h3, h4, h5⟩ := h.touchLow ht (.inr rfl)
  refine ⟨h.x.touch ht (fun z hz => ?_), hy, h1, h2, h.apart, h.loc, h3, h4, h.st, h5, h.wb⟩
  have hz' : z = B + 1 := hz
  omega
end
/-- at a round's head: what is still to come makes the parts PF, QF -/
def Tst (w : World) (B : Nat) (la lb : List P) (PF QF : List P) (f : Nat) (wr : World) : Prop :=
  ∃ (kx nx ky ny : Nat) (Rp Rq : List P) (vp vq : Value), Wk B B la kx nx wr ∧ Wk B (B + 1) lb ky ny wr ∧ Bd B (B + 4) (B + 2) Rp vp wr ∧ Bd B (B + 4) (B + 3) Rq vq wr ∧ (∀ g, vp.ownBlock = some g → vq.ownBlock ≠ some g) ∧
    B + 4 ≤ wr.heap.size ∧ Below w.heap.size w wr ∧ w.heap.size ≤ B ∧ ZS (remOf la kx nx) + ZS (remOf lb ky ny) ≤ f ∧ FS (remOf la kx nx) = FS (remOf lb ky ny) ∧
    (xf f (remOf la kx nx) (remOf lb ky ny)).1.foldl addP Rp = PF ∧ (xf f (remOf la kx nx) (remOf lb ky ny)).2.foldl addP Rq = QF
theorem Env.tst {w W : World} {B S T : Nat} {la lb : List P} {kx nx ky ny : Nat} {Rp Rq : List P} {vp vq : Value} {cs ct : Obj} {PF QF : List P} {f : Nat} (h : Env w B S T la lb kx nx ky ny Rp Rq vp vq cs ct W)
    (h1 : ZS (remOf la kx nx) + ZS (remOf lb ky ny) ≤ f) (h2 : FS (remOf la kx nx) = FS (remOf lb ky ny)) (h3 : (xf f (remOf la kx nx) (remOf lb ky ny)).1.foldl addP Rp = PF) (h4 : (xf f (remOf la kx nx) (remOf lb ky ny)).2.foldl addP Rq = QF) : Tst w B la lb PF QF f W :=
  ⟨kx, nx, ky, ny, Rp, Rq, vp, vq, h.x, h.y, h.p, h.q, h.apart, by have := h.sz; omega, h.below, h.wb, h1, h2, h3, h4⟩
theorem rem_head {la : List P} {k n : Nat} {x : P} {r : List P} (h : remOf la k n = x :: r) : ∃ p, la[k]? = some p ∧ p.cut n = x ∧ r = la.drop (k + 1) := by
  rcases Nat.lt_or_ge k la.length with hl | hl
  · have hp := List.getElem?_eq_getElem hl
    rw [remOf_cons hp] at h
    injection h with h1 h2
    exact ⟨_, hp, h1, h2.symm⟩
  · unfold remOf at h
    rw [List.drop_of_length_le hl] at h
    cases h
/-- two parts are at hand -/
theorem Env.start {w wr w2 w3 : World} {B : Nat} {la lb : List P} {kx nx ky ny : Nat} {Rp Rq : List P} {vp vq : Value} (hx : Wk B B la kx nx wr) (hy : Wk B (B + 1) lb ky ny wr) (hp : Bd B (B + 4) (B + 2) Rp vp wr) (hq : Bd B (B + 4) (B + 3) Rq vq wr)
    (hap : ∀ g, vp.ownBlock = some g → vq.ownBlock ≠ some g) (hsz : B + 4 ≤ wr.heap.size) (hbw : Below w.heap.size w wr) (hwb : w.heap.size ≤ B) (cs ct : Obj) (u2 : Below wr.heap.size wr w2) (u3 : Below (w2.alloc cs).heap.size (w2.alloc cs) w3) :
    Env w B w2.heap.size w3.heap.size la lb kx nx ky ny Rp Rq vp vq cs ct (w3.alloc ct) := by
  have a2 : Below w2.heap.size w2 (w2.alloc cs) := (Below.refl _ _).alloc (Nat.le_refl _) _
  have a3 : Below w3.heap.size w3 (w3.alloc ct) := (Below.refl _ _).alloc (Nat.le_refl _) _
  have hz2 := u2.size
  have hz3 : w2.heap.size + 1 ≤ w3.heap.size := by have := u3.size; simpa using this
  have ub := up u2 (up a2 (up u3 a3))
  refine ⟨hx.go ub, hy.go ub, hp.go ub, hq.go ub, hap, fun g hg => ?_, (Blk.new w2 cs).go (up u3 a3), Blk.new w3 ct, by omega, up hbw ub, hwb⟩
  rcases hg with hg | hg
  · have := (hp.bag.rowlt g hg).2; omega
  · have := (hq.bag.rowlt g hg).2; omega
theorem headV_noins {l : List P} (h : ∀ u r, l ≠ .i u :: r) : ∃ (k n : Int) (s : Str) (b : Bool), headV l = .tuple #[.agg #[.int .i64 k, .int .i64 n, .string s], .bool b] ∧ (k == 2) = false := by
  cases l with
  | nil => exact ⟨_, _, _, _, rfl, rfl⟩
  | cons p l =>
    cases p with
    | k n => exact ⟨_, _, _, _, rfl, rfl⟩
    | d n => exact ⟨_, _, _, _, rfl, rfl⟩
    | i t => exact absurd rfl (h t l)
end Go.Proofs.YtkhacogeffidoaaDoor
