/- The first texts of this claim, one behind the other. -/
import Derived.Test.YtkbfhgcjimfgkaaDoorFrame
import Derived.Test.YtkbfhgcjimfgkaaDoorOp
import Derived.Test.YtkbfhgcjimfgkaaDoorBase
set_option linter.unusedVariables false
set_option linter.unusedSimpArgs false
namespace Go.Proofs.YtkbfhgcjimfgkaaDoor
open Go.RowKit

structure Fr where
  kind : Int
  heard : Int
  epoch : Int
  op : Op
  text : Str
instance : Rep Fr where
  n := 5
  rd := fun A w f cs => ∃ a n c, cs = [.int .i64 f.kind, .int .i64 f.heard, .int .i64 f.epoch, .slice a n c, .string f.text] ∧ RdS A w f.op a n c ∧ I64 f.kind ∧ I64 f.heard ∧ I64 f.epoch ∧ f.text.size ≤ strMax
  len := fun ⟨_, _, _, h, _⟩ => by rw [h]; rfl
  mono := fun h ⟨a, n, c, e, hr, h2⟩ => ⟨a, n, c, e, hr.mono h, h2⟩
  one := fun ⟨_, _, _, h, _⟩ => by rw [h]; simp [Value.oneCell']
  pos := by decide
def Fr.check (f : Fr) : Int := checkFrame f.kind f.heard f.epoch f.op f.text
/-- a frame whose numbers fit -/
def Fr.fits (f : Fr) : Prop := I64 f.kind ∧ I64 f.heard ∧ I64 f.epoch ∧ f.text.size ≤ strMax
structure Pkt where
  epoch : Int
  number : Int
  bare : Bool
  ack : Int
  f : Fr
def bareFr : Fr := ⟨0, 0, 0, [], noText⟩
instance : Rep Pkt where
  n := 9
  rd := fun A w p cs => ∃ a n c, cs = [.int .i64 p.epoch, .int .i64 p.number, .bool p.bare, .int .i64 p.ack, .int .i64 p.f.kind, .int .i64 p.f.heard, .int .i64 p.f.epoch, .slice a n c, .string p.f.text] ∧ RdS A w p.f.op a n c ∧ I64 p.epoch ∧ I64 p.number ∧ I64 p.ack ∧ p.f.fits
  len := fun ⟨_, _, _, h, _⟩ => by rw [h]; rfl
  mono := fun h ⟨a, n, c, e, hr, h2⟩ => ⟨a, n, c, e, hr.mono h, h2⟩
  one := fun ⟨_, _, _, h, _⟩ => by rw [h]; simp [Value.oneCell']
  pos := by decide
/-- one side of a session -/
structure Lk where
  epoch : Int
  next : Int
  sent : List Fr
  queue : List Fr
  heard : Int
/-- one of two sides that keep a text together -/
structure Ed where
  sent : Int
  heard : Int
  pending : List Op
/-- one frame of a slice of frames -/
theorem RdS.frame {A : Nat → Prop} {w : World} {l : List Fr} {a : Option Addr} {n c : Nat} (hr : RdS A w l a n c) (hn : 0 < n) :
    ∃ b off, a = some ⟨b, off, none⟩ ∧ A b ∧ b < w.heap.size ∧ ∀ i (h : i < l.length), ∃ a' n' c', RdS A w l[i].op a' n' c' ∧ l[i].fits ∧ w.cell? ⟨b, off + i * 5, none⟩ = some (.int .i64 l[i].kind) ∧ w.cell? ⟨b, off + i * 5 + 1, none⟩ = some (.int .i64 l[i].heard) ∧
      w.cell? ⟨b, off + i * 5 + 1 + 1, none⟩ = some (.int .i64 l[i].epoch) ∧ w.cell? ⟨b, off + i * 5 + 1 + 1 + 1, none⟩ = some (.slice a' n' c') ∧ w.cell? ⟨b, off + i * 5 + 1 + 1 + 1 + 1, none⟩ = some (.string l[i].text) := by
  obtain ⟨b, off, e, hA, hb, he⟩ := hr.2.2.2.2 hn
  refine ⟨b, off, e, hA, hb, fun i h => ?_⟩
  obtain ⟨xs, ⟨a', n', c', rfl, h1, h2⟩, h4⟩ := he i l[i] (List.getElem?_eq_getElem h)
  exact ⟨a', n', c', h1, h2, h4 0 _ rfl, h4 1 _ rfl, h4 2 _ rfl, h4 3 _ rfl, h4 4 _ rfl⟩
theorem RdS.rowO {α : Type} [Rep α] {A : Nat → Prop} {w : World} {ls : List (List α)} {a : Option Addr} {n c : Nat} (hr : RdS A w ls a n c) (hn : 0 < n) :
    ∃ b off, a = some ⟨b, off, none⟩ ∧ A b ∧ b < w.heap.size ∧ ∀ i (h : i < ls.length), ∃ a' n' c', RdS A w ls[i] a' n' c' ∧ w.cell? ⟨b, off + i, none⟩ = some (.slice a' n' c') := by
  obtain ⟨b, off, e, hA, hb, he⟩ := hr.2.2.2.2 hn
  refine ⟨b, off, e, hA, hb, fun i h => ?_⟩
  obtain ⟨xs, ⟨a', n', c', rfl, h1⟩, h4⟩ := he i ls[i] (List.getElem?_eq_getElem h)
  have h5 := h4 0 _ rfl
  refine ⟨a', n', c', h1, ?_⟩
  have e1 : off + i * Rep.n (List α) + 0 = off + i := by show off + i * 1 + 0 = off + i; omega
  rw [e1] at h5
  exact h5
end Go.Proofs.YtkbfhgcjimfgkaaDoor

set_option linter.unusedVariables false
set_option linter.unusedSimpArgs false
namespace Go.Proofs.YtkbfhgcjimfgkaaDoor
open Go.RowKit

/-- a record of a tape -/
structure Rec where
  epoch : Int
  op : Op
instance : Rep Rec where
  n := 2
  rd := fun A w x cs => ∃ (a : Option Addr) (n c : Nat), cs = [.int .i64 x.epoch, .slice a n c] ∧ I64 x.epoch ∧ RdS A w x.op a n c
  len := fun ⟨_, _, _, h, _⟩ => by rw [h]; rfl
  mono := fun h ⟨a, n, c, e, hi, hr⟩ => ⟨a, n, c, e, hi, hr.mono h⟩
  one := fun ⟨_, _, _, h, _⟩ => by rw [h]; simp [Value.oneCell']
  pos := by decide
end Go.Proofs.YtkbfhgcjimfgkaaDoor
