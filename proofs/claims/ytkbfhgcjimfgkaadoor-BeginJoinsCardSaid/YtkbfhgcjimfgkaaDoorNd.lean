/- Nodes, their sides, posts and turns as plain data, and as they lie in memory. No condition. -/
import Derived.Test.YtkbfhgcjimfgkaaDoorFirst
import Derived.Test.YtkbfhgcjimfgkaaDoorLinkVal
import Derived.Deep.MidRow
set_option linter.unusedVariables false
set_option linter.unusedSimpArgs false
namespace Go.Proofs.YtkbfhgcjimfgkaaDoor
open Go.RowKit

structure Mk where
  anchor : Int
  head : Int
instance : Rep Mk where
  n := 2
  rd := fun _ _ x cs => cs = [.int .i64 x.anchor, .int .i64 x.head] ∧ I64 x.anchor ∧ I64 x.head
  len := fun h => by rw [h.1]; rfl
  mono := fun _ h => h
  one := fun h => by rw [h.1]; simp [Value.oneCell']
  pos := by decide
/-- a side of a node -/
structure Sd where
  peer : Int
  joined : Bool
  e : Ed
  l : Lk
def Ed.fits (e : Ed) : Prop := I64 e.sent ∧ I64 e.heard
abbrev sdCells (s : Sd) (a : Option Addr) (c : Nat) (sa : Option Addr) (sc : Nat) (qa : Option Addr) (qc : Nat) : List Value :=
  [.int .i64 s.peer, .bool s.joined, .int .i64 s.e.sent, .int .i64 s.e.heard, .slice a s.e.pending.length c, .int .i64 s.l.epoch, .int .i64 s.l.next, .slice sa s.l.sent.length sc, .slice qa s.l.queue.length qc, .int .i64 s.l.heard]
instance : Rep Sd where
  n := 10
  rd := fun A w s cs => ∃ a c sa sc qa qc, cs = sdCells s a c sa sc qa qc ∧ RdS A w s.e.pending a s.e.pending.length c ∧ RdS A w s.l.sent sa s.l.sent.length sc ∧ RdS A w s.l.queue qa s.l.queue.length qc ∧ I64 s.peer ∧ s.e.fits ∧ s.l.fits
  len := fun ⟨_, _, _, _, _, _, h, _⟩ => by rw [h]; rfl
  mono := fun h ⟨a, c, sa, sc, qa, qc, e, h1, h2, h3, h4⟩ => ⟨a, c, sa, sc, qa, qc, e, h1.mono h, h2.mono h, h3.mono h, h4⟩
  one := fun ⟨_, _, _, _, _, _, h, _⟩ => by rw [h]; simp [Value.oneCell']
  pos := by decide
structure Nd where
  me : Int
  epoch : Int
  up : Int
  ready : Bool
  text : Str
  sides : List Sd
  undo : List Op
  marks : List Mk
def Nd.fits (n : Nd) : Prop := I64 n.me ∧ I64 n.epoch ∧ I64 n.up ∧ n.text.size ≤ strMax
abbrev ndCells (n : Nd) (a : Option Addr) (c : Nat) (ua : Option Addr) (uc : Nat) (ma : Option Addr) (mc : Nat) : List Value :=
  [.int .i64 n.me, .int .i64 n.epoch, .int .i64 n.up, .bool n.ready, .string n.text, .slice a n.sides.length c, .slice ua n.undo.length uc, .slice ma n.marks.length mc]
instance : Rep Nd where
  n := 8
  rd := fun A w n cs => ∃ a c ua uc ma mc, cs = ndCells n a c ua uc ma mc ∧ RdS A w n.sides a n.sides.length c ∧ RdS A w n.undo ua n.undo.length uc ∧ RdS A w n.marks ma n.marks.length mc ∧ n.fits
  len := fun ⟨_, _, _, _, _, _, h, _⟩ => by rw [h]; rfl
  mono := fun h ⟨a, c, sa, sc, qa, qc, e, h1, h2, h3, h4⟩ => ⟨a, c, sa, sc, qa, qc, e, h1.mono h, h2.mono h, h3.mono h, h4⟩
  one := fun ⟨_, _, _, _, _, _, h, _⟩ => by rw [h]; simp [Value.oneCell']
  pos := by decide
structure Po where
  dest : Int
  p : Pkt
instance : Rep Po where
  n := 10
  rd := fun A w x cs => ∃ a c, cs = [.int .i64 x.dest, .int .i64 x.p.epoch, .int .i64 x.p.number, .bool x.p.bare, .int .i64 x.p.ack, .int .i64 x.p.f.kind, .int .i64 x.p.f.heard, .int .i64 x.p.f.epoch, .slice a x.p.f.op.length c, .string x.p.f.text] ∧ RdS A w x.p.f.op a x.p.f.op.length c ∧ I64 x.dest ∧ I64 x.p.epoch ∧ I64 x.p.number ∧ I64 x.p.ack ∧ x.p.f.fits
  len := fun ⟨_, _, h, _⟩ => by rw [h]; rfl
  mono := fun h ⟨a, c, e, h1, h2⟩ => ⟨a, c, e, h1.mono h, h2⟩
  one := fun ⟨_, _, h, _⟩ => by rw [h]; simp [Value.oneCell']
  pos := by decide
/-- a turn of a node -/
structure Tn where
  node : Nd
  posts : List Po
  recs : List Rec
/-- a node as a value -/
def NdVal (A : Nat → Prop) (n : Nd) (v : Value) (w : World) : Prop := ∃ a c ua uc ma mc, v = .agg (ndCells n a c ua uc ma mc).toArray ∧ RdS A w n.sides a n.sides.length c ∧ RdS A w n.undo ua n.undo.length uc ∧ RdS A w n.marks ma n.marks.length mc ∧ n.fits
abbrev tnCells (t : Tn) (us : Nat → Value) : Array Value :=
  #[.int .i64 t.node.me, .int .i64 t.node.epoch, .int .i64 t.node.up, .bool t.node.ready, .string t.node.text, us 0, us 1, us 2, us 3, us 4]
/-- a turn as a value -/
def TnVal (A : Nat → Prop) (t : Tn) (v : Value) (w : World) : Prop := ∃ us, v = .agg (tnCells t us) ∧ t.node.fits ∧ (∃ a c, us 0 = .slice a t.node.sides.length c ∧ RdS A w t.node.sides a t.node.sides.length c) ∧ (∃ a c, us 1 = .slice a t.node.undo.length c ∧ RdS A w t.node.undo a t.node.undo.length c) ∧
  (∃ a c, us 2 = .slice a t.node.marks.length c ∧ RdS A w t.node.marks a t.node.marks.length c) ∧ (∃ a c, us 3 = .slice a t.posts.length c ∧ RdS A w t.posts a t.posts.length c) ∧ (∃ a c, us 4 = .slice a t.recs.length c ∧ RdS A w t.recs a t.recs.length c)
theorem NdVal.mono {A A' : Nat → Prop} {n : Nd} {v : Value} {w w' : World} (h : NdVal A n v w) (hA : ∀ b, A b → A' b ∧ w'.heap[b]? = w.heap[b]?) : NdVal A' n v w' := by
  obtain ⟨a, c, ua, uc, ma, mc, e, h1, h2, h3, h4⟩ := h
  exact ⟨a, c, ua, uc, ma, mc, e, h1.mono hA, h2.mono hA, h3.mono hA, h4⟩
theorem TnVal.mono {A A' : Nat → Prop} {t : Tn} {v : Value} {w w' : World} (h : TnVal A t v w) (hA : ∀ b, A b → A' b ∧ w'.heap[b]? = w.heap[b]?) : TnVal A' t v w' := by
  obtain ⟨us, e, hf, ⟨a0, c0, e0, h0⟩, ⟨a1, c1, e1, h1⟩, ⟨a2, c2, e2, h2⟩, ⟨a3, c3, e3, h3⟩, a4, c4, e4, h4⟩ := h
  exact ⟨us, e, hf, ⟨a0, c0, e0, h0.mono hA⟩, ⟨a1, c1, e1, h1.mono hA⟩, ⟨a2, c2, e2, h2.mono hA⟩, ⟨a3, c3, e3, h3.mono hA⟩, a4, c4, e4, h4.mono hA⟩
theorem touch_setCells (w : World) (r k : Nat) (vs : List Value) : Touch (fun z => z = r) w (w.setCells r k vs) :=
  ⟨World.os_setCells w r k vs, tape_setCells r vs k w, World.output_setCells w r k vs, by rw [size_setCells']; exact Nat.le_refl _, fun q hq hs => World.heap_setCells_other w r k vs hq hs⟩
theorem blk_setL (g T : Nat) : ∀ (vs pre post : List Value) (w : World), post.length = vs.length → Blk g (.cells (pre ++ post).toArray T (0, 0)) w → Blk g (.cells (pre ++ vs).toArray T (0, 0)) (w.setCells g pre.length vs)
  | [], pre, [], w, _, h => h
  | v :: vs, pre, p :: post, w, hl, h => by
    have h1 := h.set pre.length v
    have e : (pre ++ p :: post).toArray.setIfInBounds pre.length v = ((pre ++ [v]) ++ post).toArray := by
      rw [List.setIfInBounds_toArray, List.set_append_right _ _ (Nat.le_refl _), Nat.sub_self, List.set_cons_zero]
      simp
    rw [e] at h1
    have h2 := blk_setL g T vs (pre ++ [v]) post _ (by simpa using hl) h1
    have e2 : (pre ++ [v]) ++ vs = pre ++ v :: vs := by simp
    rw [e2] at h2
    have e3 : (pre ++ [v]).length = pre.length + 1 := by simp
    rw [e3] at h2
    exact h2
  | [], _, _ :: _, _, hl, _ => by simp at hl
  | _ :: _, _, [], _, hl, _ => by simp at hl
abbrev set10w (W : World) (g : Nat) (v0 v1 v2 v3 v4 v5 v6 v7 v8 v9 : Value) : World := (((((((((W.setCell ⟨g, 0, none⟩ v0).setCell ⟨g, 1, none⟩ v1).setCell ⟨g, 2, none⟩ v2).setCell ⟨g, 3, none⟩ v3).setCell ⟨g, 4, none⟩ v4).setCell ⟨g, 5, none⟩ v5).setCell ⟨g, 6, none⟩ v6).setCell ⟨g, 7, none⟩ v7).setCell ⟨g, 8, none⟩ v8).setCell ⟨g, 9, none⟩ v9
theorem blk_set10 {w : World} {g T : Nat} {c0 c1 c2 c3 c4 c5 c6 c7 c8 c9 : Value} (h : Blk g (.cells #[c0, c1, c2, c3, c4, c5, c6, c7, c8, c9] T (0, 0)) w) (v0 v1 v2 v3 v4 v5 v6 v7 v8 v9 : Value) : Blk g (.cells #[v0, v1, v2, v3, v4, v5, v6, v7, v8, v9] T (0, 0)) (set10w w g v0 v1 v2 v3 v4 v5 v6 v7 v8 v9) :=
  blk_setL g T [v0, v1, v2, v3, v4, v5, v6, v7, v8, v9] [] [c0, c1, c2, c3, c4, c5, c6, c7, c8, c9] w rfl h
theorem touch10 (w : World) (g : Nat) (v0 v1 v2 v3 v4 v5 v6 v7 v8 v9 : Value) : Touch (fun z => z = g) w (set10w w g v0 v1 v2 v3 v4 v5 v6 v7 v8 v9) :=
  (((((((((touch1 v0).trans (touch1 v1)).trans (touch1 v2)).trans (touch1 v3)).trans (touch1 v4)).trans (touch1 v5)).trans (touch1 v6)).trans (touch1 v7)).trans (touch1 v8)).trans (touch1 v9)
theorem blk10_cells {g : Nat} {x0 x1 x2 x3 x4 x5 x6 x7 x8 x9 : Value} {T : Nat} {W : World} (h : Blk g (.cells #[x0, x1, x2, x3, x4, x5, x6, x7, x8, x9] T (0, 0)) W) :
    W.cell? ⟨g, 0, none⟩ = some x0 ∧ W.cell? ⟨g, 1, none⟩ = some x1 ∧ W.cell? ⟨g, 2, none⟩ = some x2 ∧ W.cell? ⟨g, 3, none⟩ = some x3 ∧ W.cell? ⟨g, 4, none⟩ = some x4 ∧ W.cell? ⟨g, 5, none⟩ = some x5 ∧ W.cell? ⟨g, 6, none⟩ = some x6 ∧ W.cell? ⟨g, 7, none⟩ = some x7 ∧ W.cell? ⟨g, 8, none⟩ = some x8 ∧ W.cell? ⟨g, 9, none⟩ = some x9 :=
  ⟨h.cell 0, h.cell 1, h.cell 2, h.cell 3, h.cell 4, h.cell 5, h.cell 6, h.cell 7, h.cell 8, h.cell 9⟩
abbrev zeroTn : Array Value := #[.int .i64 0, .int .i64 0, .int .i64 0, .bool false, .string ⟨#[]⟩, .slice none 0 0, .slice none 0 0, .slice none 0 0, .slice none 0 0, .slice none 0 0]
/-- a box of ten cells, stored anew as a whole -/
theorem there_blk {w : World} {g T : Nat} {cs : Array Value} (h : Blk g (.cells cs T (0, 0)) w) : w.there g 0 cs.size := fun j hj => ⟨by rw [Nat.zero_add, h.cell j, Array.getElem?_eq_getElem hj]; rfl, by rw [Nat.zero_add]; exact h.frozen j⟩
theorem zero_turn {b : Nat} {w W : World} (hb : w.heap.size ≤ b) (x : Blk b (.cells zeroTn 35 (0, 0)) W) (h : Below w.heap.size w W) :
    Blk b (.cells zeroTn 35 (0, 0)) (set10w W b (.int .i64 0) (.int .i64 0) (.int .i64 0) (.bool false) (.string ⟨#[]⟩) (.slice none 0 0) (.slice none 0 0) (.slice none 0 0) (.slice none 0 0) (.slice none 0 0)) ∧ Below w.heap.size w (set10w W b (.int .i64 0) (.int .i64 0) (.int .i64 0) (.bool false) (.string ⟨#[]⟩) (.slice none 0 0) (.slice none 0 0) (.slice none 0 0) (.slice none 0 0) (.slice none 0 0)) :=
  ⟨blk_set10 x _ _ _ _ _ _ _ _ _ _, h.trans ((touch10 W b _ _ _ _ _ _ _ _ _ _).toBelow h.size (fun k hk => by omega))⟩
/-- one element of a slice, in its cells -/
theorem RdS.elem {α : Type} [Rep α] {A : Nat → Prop} {w : World} {l : List α} {a : Option Addr} {n c : Nat} (h : RdS A w l a n c) (i : Nat) (hi : i < l.length) :
    ∃ b off xs, a = some ⟨b, off, none⟩ ∧ A b ∧ b < w.heap.size ∧ Rep.rd A w l[i] xs ∧ ∀ j v, xs[j]? = some v → w.cell? ⟨b, off + i * Rep.n α + j, none⟩ = some v := by
  obtain ⟨b, off, e, hA, hb, he⟩ := h.2.2.2.2 (by have := h.1; omega)
  obtain ⟨xs, h1, h2⟩ := he i l[i] (List.getElem?_eq_getElem hi)
  exact ⟨b, off, xs, e, hA, hb, h1, h2⟩
end Go.Proofs.YtkbfhgcjimfgkaaDoor
