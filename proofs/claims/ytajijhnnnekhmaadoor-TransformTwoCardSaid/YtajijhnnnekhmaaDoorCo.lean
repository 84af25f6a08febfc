/- What stands while two operations are walked through, and one is built. -/
import Derived.Test.YtajijhnnnekhmaaDoorTr
set_option linter.unusedSimpArgs false
namespace Go.Proofs.YtajijhnnnekhmaaDoor
open Go.RowKit

/-- the two walkers (blocks B, B + 1), the builder (B + 2), two parts at hand (S, T) -/
structure Co (w : World) (B S T : Nat) (la lb : List P) (kx nx ky ny : Nat) (Rp : List P) (vp : Value) (cs ct : Obj) (W : World) : Prop where
  x : Wk B B la kx nx W
  y : Wk B (B + 1) lb ky ny W
  p : Bd B (B + 3) (B + 2) Rp vp W
  loc : ∀ g, vp.ownBlock = some g → g ≠ S ∧ g ≠ T
  s : Blk S cs W
  t : Blk T ct W
  st : B + 3 ≤ S ∧ B + 3 ≤ T
  below : Below w.heap.size w W
  wb : w.heap.size ≤ B
section
variable {w W W' : World} {B S T : Nat} {la lb : List P} {kx nx ky ny : Nat} {Rp : List P} {vp : Value} {cs ct : Obj} {e : Ending}
theorem Co.sz (h : Co w B S T la lb kx nx ky ny Rp vp cs ct W) : B + 3 < W.heap.size := by have := h.s.lt; have := h.st; omega
theorem Co.go (h : Co w B S T la lb kx nx ky ny Rp vp cs ct W) (hb : Below W.heap.size W W') : Co w B S T la lb kx nx ky ny Rp vp cs ct W' :=
  ⟨h.x.go hb, h.y.go hb, h.p.go hb, h.loc, h.s.go hb, h.t.go hb, h.st, up h.below hb, h.wb⟩
theorem Co.putP {R : List P} (h : Co w B S T la lb kx nx ky ny Rp vp cs ct W) (ha : AddB B (B + 3) (B + 2) R vp W e W') : e = .returned (.tuple #[]) ∧ ∃ vp', Co w B S T la lb kx nx ky ny R vp' cs ct W' := by
  obtain ⟨v', he, hp, ht, hv⟩ := ha
  have hsz := h.sz
  have hrow := h.p.row
  have hS : ∀ z, Bag.S (B + 2) vp z → z = B + 2 ∨ (B + 3 ≤ z ∧ vp.ownBlock = some z) := fun z hz => by
    rcases hz with h' | h'
    · exact .inl h'
    · exact .inr ⟨hrow z h', h'⟩
  have hnew : ∀ g, v'.ownBlock = some g → vp.ownBlock = some g ∨ W.heap.size ≤ g := fun g hg => by
    rcases hv with hv | hv
    · exact .inl (by rw [← hv]; exact hg)
    · exact .inr (hv g hg)
  refine ⟨he, v', h.x.touch ht (fun z hz => by have := hS z hz; omega), h.y.touch ht (fun z hz => by have := hS z hz; omega), hp, ?_, h.s.touch ht ?_, h.t.touch ht ?_, h.st, ?_, h.wb⟩
  · intro g hg
    rcases hnew g hg with h' | h'
    · exact h.loc g h'
    · have := h.s.lt; have := h.t.lt; omega
  · intro hz
    rcases hS _ hz with h' | h'
    · have := h.st; omega
    · exact (h.loc _ h'.2).1 rfl
  · intro hz
    rcases hS _ hz with h' | h'
    · have := h.st; omega
    · exact (h.loc _ h'.2).2 rfl
  · exact h.below.trans (ht.toBelow h.below.size (fun k hk => by have := hS k hk; have := h.wb; omega))
theorem Co.touchLow {b : Nat} (h : Co w B S T la lb kx nx ky ny Rp vp cs ct W) (ht : Touch (fun z => z = b) W W') (hb : b = B ∨ b = B + 1) :
    Bd B (B + 3) (B + 2) Rp vp W' ∧ Blk S cs W' ∧ Blk T ct W' ∧ Below w.heap.size w W' := by
  have hst := h.st
  have hwb := h.wb
  refine ⟨h.p.touch ht (by omega) (fun g hg => by have := h.p.row g hg; omega), h.s.touch ht (by omega), h.t.touch ht (by omega), h.below.trans (ht.toBelow h.below.size (fun k hk => by have hk' : k = b := hk; omega))⟩
theorem Co.passX {kx' nx' : Nat} (h : Co w B S T la lb kx nx ky ny Rp vp cs ct W) (ht : Touch (fun z => z = B) W W') (hx : Wk B B la kx' nx' W') : Co w B S T la lb kx' nx' ky ny Rp vp cs ct W' := by
  obtain ⟨h1, h3, h4, h5⟩ := h.touchLow ht (.inl rfl)
  exact ⟨hx, h.y.touch ht (fun z hz => by have hz' : z = B := hz; omega), h1, h.loc, h3, h4, h.st, h5, h.wb⟩
theorem Co.passY {ky' ny' : Nat} (h : Co w B S T la lb kx nx ky ny Rp vp cs ct W) (ht : Touch (fun z => z = B + 1) W W') (hy : Wk B (B + 1) lb ky' ny' W') : Co w B S T la lb kx nx ky' ny' Rp vp cs ct W' := by
  obtain ⟨h1, h3, h4, h5⟩ := h.touchLow ht (.inr rfl)
  refine ⟨h.x.touch ht (fun z hz => ?_), hy, h1, h.loc, h3, h4, h.st, h5, h.wb⟩
  have hz' : z = B + 1 := hz
  omega
end
/-- at a round's head: what is still to come makes the parts PF -/
def Cst (w : World) (B : Nat) (la lb : List P) (PF : List P) (f : Nat) (wr : World) : Prop :=
  ∃ (kx nx ky ny : Nat) (Rp : List P) (vp : Value), Wk B B la kx nx wr ∧ Wk B (B + 1) lb ky ny wr ∧ Bd B (B + 3) (B + 2) Rp vp wr ∧
    B + 3 ≤ wr.heap.size ∧ Below w.heap.size w wr ∧ w.heap.size ≤ B ∧ ZS (remOf la kx nx) + ZS (remOf lb ky ny) ≤ f ∧ TS (remOf la kx nx) = FS (remOf lb ky ny) ∧
    (cf f (remOf la kx nx) (remOf lb ky ny)).foldl addP Rp = PF
theorem Co.cst {w W : World} {B S T : Nat} {la lb : List P} {kx nx ky ny : Nat} {Rp : List P} {vp : Value} {cs ct : Obj} {PF : List P} {f : Nat} (h : Co w B S T la lb kx nx ky ny Rp vp cs ct W)
    (h1 : ZS (remOf la kx nx) + ZS (remOf lb ky ny) ≤ f) (h2 : TS (remOf la kx nx) = FS (remOf lb ky ny)) (h3 : (cf f (remOf la kx nx) (remOf lb ky ny)).foldl addP Rp = PF) : Cst w B la lb PF f W :=
  ⟨kx, nx, ky, ny, Rp, vp, h.x, h.y, h.p, by have := h.sz; omega, h.below, h.wb, h1, h2, h3⟩
/-- two parts are at hand -/
theorem Co.start {w wr w2 w3 : World} {B : Nat} {la lb : List P} {kx nx ky ny : Nat} {Rp : List P} {vp : Value} (hx : Wk B B la kx nx wr) (hy : Wk B (B + 1) lb ky ny wr) (hp : Bd B (B + 3) (B + 2) Rp vp wr)
    (hsz : B + 3 ≤ wr.heap.size) (hbw : Below w.heap.size w wr) (hwb : w.heap.size ≤ B) (cs ct : Obj) (u2 : Below wr.heap.size wr w2) (u3 : Below (w2.alloc cs).heap.size (w2.alloc cs) w3) :
    Co w B w2.heap.size w3.heap.size la lb kx nx ky ny Rp vp cs ct (w3.alloc ct) := by
  have a2 : Below w2.heap.size w2 (w2.alloc cs) := (Below.refl _ _).alloc (Nat.le_refl _) _
  have a3 : Below w3.heap.size w3 (w3.alloc ct) := (Below.refl _ _).alloc (Nat.le_refl _) _
  have hz2 := u2.size
  have hz3 : w2.heap.size + 1 ≤ w3.heap.size := by have := u3.size; simpa using this
  have ub := up u2 (up a2 (up u3 a3))
  refine ⟨hx.go ub, hy.go ub, hp.go ub, fun g hg => ?_, (Blk.new w2 cs).go (up u3 a3), Blk.new w3 ct, by omega, up hbw ub, hwb⟩
  have := (hp.bag.rowlt g hg).2; omega
theorem headV_nodel {l : List P} (h : ∀ u r, l ≠ .d u :: r) : ∃ (k n : Int) (s : Str) (b : Bool), headV l = .tuple #[.agg #[.int .i64 k, .int .i64 n, .string s], .bool b] ∧ (k == 3) = false := by
  cases l with
  | nil => exact ⟨_, _, _, _, rfl, rfl⟩
  | cons p l =>
    cases p with
    | k n => exact ⟨_, _, _, _, rfl, rfl⟩
    | i n => exact ⟨_, _, _, _, rfl, rfl⟩
    | d t => exact absurd rfl (h t l)
theorem cf_nil (f : Nat) : cf f [] [] = [] := by cases f <;> simp only [cf]
/-- the operation that Compose yields -/
def coOp (o q : Op) : Op := opOfP (cf (ZS (opP o) + ZS (opP q)) (opP o) (opP q))
theorem co_laws {o q : Op} (h1 : check o = 0) (h2 : check q = 0) (h3 : sumT o = sumF q) :
    check (coOp o q) = 0 ∧ sumF (coOp o q) = sumF o ∧ sumT (coOp o q) = sumT q ∧ (∀ t : List Nat, (t.length : Int) = sumF o → app (app t (opP o)) (opP q) = app t (opP (coOp o q))) := by
  have hI1 := opIs h1
  have hI2 := opIs h2
  have hs1 := (check_zero h1).2.2
  have hs2 := (check_zero h2).2.2
  have e1 := hI1.t
  have e2 := hI2.t
  have e3 := hI1.f
  have e4 := hI2.f
  have hFF : TS (opP o) = FS (opP q) := by omega
  obtain ⟨l1, l2, l3, l4⟩ := cf_laws _ _ _ hI1.ok hI2.ok hFF (Nat.le_refl _)
  unfold coOp
  refine ⟨opOfP_check l1 (by omega) (by omega), by rw [opOfP_sumF]; omega, by rw [opOfP_sumT l1]; omega, fun t ht => ?_⟩
  rw [opOfP_app l1 (by omega) (by omega)]
  exact l4 t (by omega)
end Go.Proofs.YtajijhnnnekhmaaDoor
