/- Links, frames and packets as values that the cables' laws hold; the calls at a link that sends one frame again and again. -/
import Derived.Test.YtkbfhgcjimfgkaaDoorLinkLaw
import Derived.Test.YtkbfhgcjimfgkaaDoorLkHear2
set_option linter.unusedVariables false
set_option linter.unusedSimpArgs false
namespace Go.Proofs.YtkbfhgcjimfgkaaDoor
open Go.RowKit

/-- memory from B on -/
def Fresh (B : Nat) (w : World) (z : Nat) : Prop := B ≤ z ∧ z < w.heap.size
theorem RdS.up {α : Type} [Rep α] {B : Nat} {w w' : World} {l : List α} {a : Option Addr} {n c : Nat} (h : RdS (Fresh B w) w l a n c) (hb : Below w.heap.size w w') : RdS (Fresh B w') w' l a n c :=
  h.mono fun z hz => ⟨⟨hz.1, Nat.lt_of_lt_of_le hz.2 hb.size⟩, hb.block z hz.2⟩
theorem RdS.past {α : Type} [Rep α] {B : Nat} {S : Nat → Prop} {w w' : World} {l : List α} {a : Option Addr} {n c : Nat} (h : RdS (Fresh B w) w l a n c) (ht : Touch S w w') (hs : ∀ z, S z → z < B) : RdS (Fresh B w') w' l a n c :=
  h.mono fun z hz => ⟨⟨hz.1, Nat.lt_of_lt_of_le hz.2 ht.size⟩, ht.block z hz.2 (fun h => by have := hs z h; have := hz.1; omega)⟩
theorem RdS.all {α : Type} [Rep α] {B : Nat} {w : World} {l : List α} {a : Option Addr} {n c : Nat} (h : RdS (Fresh B w) w l a n c) : RdS (· < w.heap.size) w l a n c := h.mono fun z hz => ⟨hz.2, rfl⟩
theorem RdS.deep {α : Type} [Rep α] {B B' : Nat} {w : World} {l : List α} {a : Option Addr} {n c : Nat} (h : RdS (Fresh B w) w l a n c) (hb : B' ≤ B) : RdS (Fresh B' w) w l a n c := h.mono fun z hz => ⟨⟨Nat.le_trans hb hz.1, hz.2⟩, rfl⟩

/-- a frame as a value -/
def FrV (B : Nat) (f : Fr) (v : Value) (w : World) : Prop := ∃ a c, v = .agg #[.int .i64 f.kind, .int .i64 f.heard, .int .i64 f.epoch, .slice a f.op.length c, .string f.text] ∧ RdS (Fresh B w) w f.op a f.op.length c
/-- a link as a value -/
def LkVal (B : Nat) (l : Lk) (v : Value) (w : World) : Prop := ∃ sa sc qa qc, v = .agg #[.int .i64 l.epoch, .int .i64 l.next, .slice sa l.sent.length sc, .slice qa l.queue.length qc, .int .i64 l.heard] ∧ RdS (Fresh B w) w l.sent sa l.sent.length sc ∧ RdS (Fresh B w) w l.queue qa l.queue.length qc
/-- packets as a value -/
def PsVal (B : Nat) (ps : List Pkt) (v : Value) (w : World) : Prop := ∃ pa pc, v = .slice pa ps.length pc ∧ RdS (Fresh B w) w ps pa ps.length pc
/-- a packet as a value -/
def PkVal (B : Nat) (p : Pkt) (v : Value) (w : World) : Prop := ∃ a c, v = .agg #[.int .i64 p.epoch, .int .i64 p.number, .bool p.bare, .int .i64 p.ack, .int .i64 p.f.kind, .int .i64 p.f.heard, .int .i64 p.f.epoch, .slice a p.f.op.length c, .string p.f.text] ∧ RdS (Fresh B w) w p.f.op a p.f.op.length c
theorem FrV.go {B : Nat} {f : Fr} {v : Value} {w w' : World} (h : FrV B f v w) (hb : Below w.heap.size w w') : FrV B f v w' := by obtain ⟨a, c, e, h⟩ := h; exact ⟨a, c, e, h.up hb⟩
theorem LkVal.go {B : Nat} {l : Lk} {v : Value} {w w' : World} (h : LkVal B l v w) (hb : Below w.heap.size w w') : LkVal B l v w' := by obtain ⟨a, c, a', c', e, h, h'⟩ := h; exact ⟨a, c, a', c', e, h.up hb, h'.up hb⟩
theorem PsVal.go {B : Nat} {ps : List Pkt} {v : Value} {w w' : World} (h : PsVal B ps v w) (hb : Below w.heap.size w w') : PsVal B ps v w' := by obtain ⟨a, c, e, h⟩ := h; exact ⟨a, c, e, h.up hb⟩
theorem PkVal.go {B : Nat} {p : Pkt} {v : Value} {w w' : World} (h : PkVal B p v w) (hb : Below w.heap.size w w') : PkVal B p v w' := by obtain ⟨a, c, e, h⟩ := h; exact ⟨a, c, e, h.up hb⟩
theorem FrV.past {B : Nat} {S : Nat → Prop} {f : Fr} {v : Value} {w w' : World} (h : FrV B f v w) (ht : Touch S w w') (hs : ∀ z, S z → z < B) : FrV B f v w' := by obtain ⟨a, c, e, h⟩ := h; exact ⟨a, c, e, h.past ht hs⟩
theorem LkVal.past {B : Nat} {S : Nat → Prop} {l : Lk} {v : Value} {w w' : World} (h : LkVal B l v w) (ht : Touch S w w') (hs : ∀ z, S z → z < B) : LkVal B l v w' := by obtain ⟨a, c, a', c', e, h, h'⟩ := h; exact ⟨a, c, a', c', e, h.past ht hs, h'.past ht hs⟩
theorem PsVal.past {B : Nat} {S : Nat → Prop} {ps : List Pkt} {v : Value} {w w' : World} (h : PsVal B ps v w) (ht : Touch S w w') (hs : ∀ z, S z → z < B) : PsVal B ps v w' := by obtain ⟨a, c, e, h⟩ := h; exact ⟨a, c, e, h.past ht hs⟩
theorem PkVal.past {B : Nat} {S : Nat → Prop} {p : Pkt} {v : Value} {w w' : World} (h : PkVal B p v w) (ht : Touch S w w') (hs : ∀ z, S z → z < B) : PkVal B p v w' := by obtain ⟨a, c, e, h⟩ := h; exact ⟨a, c, e, h.past ht hs⟩
theorem FrV.deep {B B' : Nat} {f : Fr} {v : Value} {w : World} (h : FrV B f v w) (hb : B' ≤ B) : FrV B' f v w := by obtain ⟨a, c, e, h⟩ := h; exact ⟨a, c, e, h.deep hb⟩
theorem LkVal.deep {B B' : Nat} {l : Lk} {v : Value} {w : World} (h : LkVal B l v w) (hb : B' ≤ B) : LkVal B' l v w := by obtain ⟨a, c, a', c', e, h, h'⟩ := h; exact ⟨a, c, a', c', e, h.deep hb, h'.deep hb⟩
theorem PsVal.deep {B B' : Nat} {ps : List Pkt} {v : Value} {w : World} (h : PsVal B ps v w) (hb : B' ≤ B) : PsVal B' ps v w := by obtain ⟨a, c, e, h⟩ := h; exact ⟨a, c, e, h.deep hb⟩
theorem PkVal.deep {B B' : Nat} {p : Pkt} {v : Value} {w : World} (h : PkVal B p v w) (hb : B' ≤ B) : PkVal B' p v w := by obtain ⟨a, c, e, h⟩ := h; exact ⟨a, c, e, h.deep hb⟩
/-- the calls, at values -/
theorem send_val (l : Lk) (f : Fr) (vl vf : Value) (B : Nat) (w : World) (hg : Good w) (hv : LkVal B l vl w) (hfv : FrV B f vf w) (hl : l.fits) (hf : f.fits) (hq : l.queue.length ≤ 1000000) :
    Calls Tryd.prog 71 #[vl, vf] w fun e w' => ∃ ul up, e = .returned (.tuple #[ul, up, .int .i64 (l.sendE f)]) ∧ LkVal w.heap.size (l.sendL f) ul w' ∧ PsVal w.heap.size (l.sendP f) up w' ∧ Below w.heap.size w w' := by
  obtain ⟨sa, sc, qa, qc, rfl, h1, h2⟩ := hv
  obtain ⟨fa, fc, rfl, h3⟩ := hfv
  refine (lkSend_any l f sa qa fa _ sc _ qc _ fc w hg h1.all h2.all h3.all hl hf hq).mono ?_
  rintro e w' ⟨xa, xc, ya, yc, pa, pc, rfl, r1, r2, r3, hb⟩
  exact ⟨_, _, rfl, ⟨xa, xc, ya, yc, rfl, r1, r2⟩, ⟨pa, pc, rfl, r3⟩, hb⟩
theorem hear_val (l : Lk) (p : Pkt) (vl vp : Value) (B : Nat) (w : World) (hg : Good w) (hv : LkVal B l vl w) (hpv : PkVal B p vp w) (hl : l.fits) (hp : p.fits) (hq : l.queue.length ≤ 1000000) :
    Calls Tryd.prog 66 #[vl, vp] w fun e w' => ∃ ul uf up, e = .returned (.tuple #[ul, uf, .bool (l.told p), up, .int .i64 (l.hearE p)]) ∧ LkVal w.heap.size (l.hearL p) ul w' ∧ FrV w.heap.size (l.hearF p) uf w' ∧ PsVal w.heap.size (l.hearP p) up w' ∧ Below w.heap.size w w' := by
  obtain ⟨sa, sc, qa, qc, rfl, h1, h2⟩ := hv
  obtain ⟨fa, fc, rfl, h3⟩ := hpv
  refine (lkHear_any l p sa qa fa _ sc _ qc _ fc w hg h1.all h2.all h3.all hl hp hq).mono ?_
  rintro e w' ⟨xa, xc, ya, yc, za, zc, pa, pc, rfl, r1, r2, r3, r4, hb⟩
  exact ⟨_, _, _, rfl, ⟨xa, xc, ya, yc, rfl, r1, r2⟩, ⟨za, zc, rfl, r3⟩, ⟨pa, pc, rfl, r4⟩, hb⟩
/-- the i'th of some packets, in its cells -/
theorem PsVal.at {B : Nat} {ps : List Pkt} {v : Value} {w : World} (h : PsVal B ps v w) (i : Nat) (hi : i < ps.length) : ∃ g off pc a c, v = .slice (some ⟨g, off, none⟩) ps.length pc ∧ Fresh B w g ∧ RdS (Fresh B w) w ps[i].f.op a ps[i].f.op.length c ∧
    w.cell? ⟨g, off + i * 9, none⟩ = some (.int .i64 ps[i].epoch) ∧ w.cell? ⟨g, off + i * 9 + 1, none⟩ = some (.int .i64 ps[i].number) ∧ w.cell? ⟨g, off + i * 9 + 1 + 1, none⟩ = some (.bool ps[i].bare) ∧ w.cell? ⟨g, off + i * 9 + 1 + 1 + 1, none⟩ = some (.int .i64 ps[i].ack) ∧
    w.cell? ⟨g, off + i * 9 + 1 + 1 + 1 + 1, none⟩ = some (.int .i64 ps[i].f.kind) ∧ w.cell? ⟨g, off + i * 9 + 1 + 1 + 1 + 1 + 1, none⟩ = some (.int .i64 ps[i].f.heard) ∧ w.cell? ⟨g, off + i * 9 + 1 + 1 + 1 + 1 + 1 + 1, none⟩ = some (.int .i64 ps[i].f.epoch) ∧
    w.cell? ⟨g, off + i * 9 + 1 + 1 + 1 + 1 + 1 + 1 + 1, none⟩ = some (.slice a ps[i].f.op.length c) ∧ w.cell? ⟨g, off + i * 9 + 1 + 1 + 1 + 1 + 1 + 1 + 1 + 1, none⟩ = some (.string ps[i].f.text) := by
  obtain ⟨pa, pc, rfl, hr⟩ := h
  obtain ⟨g, off, rfl, hA, hb, he⟩ := hr.2.2.2.2 (by omega)
  obtain ⟨xs, ⟨a, n, c, rfl, h1, -⟩, h4⟩ := he i ps[i] (List.getElem?_eq_getElem hi)
  have hn := h1.1
  subst hn
  exact ⟨g, off, pc, a, c, rfl, hA, h1, h4 0 _ rfl, h4 1 _ rfl, h4 2 _ rfl, h4 3 _ rfl, h4 4 _ rfl, h4 5 _ rfl, h4 6 _ rfl, h4 7 _ rfl, h4 8 _ rfl⟩
end Go.Proofs.YtkbfhgcjimfgkaaDoor
