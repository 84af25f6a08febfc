/- A link that lies in a box; a link that heard, as a value. No condition. -/
import Derived.Test.YtkbfhgcjimfgkaaDoorLinkOff
set_option linter.unusedVariables false
set_option linter.unusedSimpArgs false
namespace Go.Proofs.YtkbfhgcjimfgkaaDoor
open Go.RowKit

/-- what an empty slice needs -/
def NilS (a : Option Addr) (c : Nat) : Prop := c ≤ maxLen ∧ (a = none → c = 0)
theorem NilS.rd {A : Nat → Prop} {w : World} {a : Option Addr} {c : Nat} (h : NilS a c) : RdS A w ([] : List Fr) a 0 c := RdS.nil' A w a c h.1 h.2
theorem NilS.of {A : Nat → Prop} {w : World} {a : Option Addr} {c : Nat} (h : RdS A w ([] : List Fr) a 0 c) : NilS a c := ⟨h.2.2.1, h.2.2.2.1⟩
theorem blk_types {g g' t t' : Nat} {cs cs' : Array Value} {w : World} (h : Blk g (.cells cs t (0, 0)) w) (h' : Blk g' (.cells cs' t' (0, 0)) w) (ht : t ≠ t') : g ≠ g' := by
  rintro rfl
  have e := Option.some.inj (h.symm.trans h')
  injection e with e1 e2
  exact ht e2
theorem hearG {f : Fr} (hf : f.check = 0) (hff : f.fits) (h j hn : Nat) (tb : Bool) (hh : h < 1048576) (h1 : 1 ≤ j) (h2 : j ≤ 1048576) (e1 : (if j = h + 1 then h + 1 else h) = hn) (e2 : decide (j = h + 1) = tb) (B : Nat) (a b : Option Addr) (c d : Nat) (vp : Value) (w : World) (hg : Good w) (na : NilS a c) (nb : NilS b d) (hv : PkVal B (pkF f j) vp w) :
    Calls Tryd.prog 66 #[.agg #[.int .i64 2, .int .i64 1, .slice a 0 c, .slice b 0 d, .int .i64 (h : Int)], vp] w fun e w' => ∃ e0 e1 e2 e3 f0 f1 f2 f3 f4 f5 f6 z, e = .returned (.tuple #[.agg #[.int .i64 2, .int .i64 1, .slice e0 0 e1, .slice e2 0 e3, .int .i64 (hn : Int)], .agg #[.int .i64 f0, .int .i64 f1, .int .i64 f2, .slice f3 f4 f5, .string f6], .bool tb, z, .int .i64 0]) ∧ NilS e0 e1 ∧ NilS e2 e3 ∧ Below w.heap.size w w' := by
  have hc := hear_val (lkH h) (pkF f j) (.agg #[.int .i64 2, .int .i64 1, .slice a 0 c, .slice b 0 d, .int .i64 (h : Int)]) vp B w hg ⟨a, c, b, d, rfl, na.rd, nb.rd⟩ hv (lkH_fits (by omega)) (pkF_fits hff h2) (by simp [lkH])
  obtain ⟨q1, q2, q3, q4⟩ := lkH_hear hf hh h1 h2
  rw [q1, q2, q3, e1, e2] at hc
  refine hc.mono ?_
  rintro e w' ⟨ul, uf, up', rfl, ⟨sa, sc, qa, qc, rfl, r1, r2⟩, ⟨fa, fc, rfl, -⟩, -, hb⟩
  exact ⟨sa, sc, qa, qc, _, _, _, fa, _, fc, _, up', rfl, NilS.of r1, NilS.of r2, hb⟩
/-- a link that lies in a box -/
def LkBox (B g : Nat) (l : Lk) (w : World) : Prop := ∃ sa sc qa qc, Blk g (.cells #[.int .i64 l.epoch, .int .i64 l.next, .slice sa l.sent.length sc, .slice qa l.queue.length qc, .int .i64 l.heard] 70 (0, 0)) w ∧ RdS (Fresh B w) w l.sent sa l.sent.length sc ∧ RdS (Fresh B w) w l.queue qa l.queue.length qc
theorem LkBox.go {B g : Nat} {l : Lk} {w w' : World} (h : LkBox B g l w) (hb : Below w.heap.size w w') : LkBox B g l w' := by obtain ⟨a, c, a', c', e, h, h'⟩ := h; exact ⟨a, c, a', c', e.go hb, h.up hb, h'.up hb⟩
theorem LkBox.past {B g : Nat} {S : Nat → Prop} {l : Lk} {w w' : World} (h : LkBox B g l w) (ht : Touch S w w') (hs : ∀ z, S z → z < B) (hg : ¬ S g) : LkBox B g l w' := by obtain ⟨a, c, a', c', e, h, h'⟩ := h; exact ⟨a, c, a', c', e.touch ht hg, h.past ht hs, h'.past ht hs⟩
end Go.Proofs.YtkbfhgcjimfgkaaDoor
