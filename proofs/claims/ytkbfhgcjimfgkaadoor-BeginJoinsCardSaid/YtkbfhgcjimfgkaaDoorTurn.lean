/- A turn begins; a turn is yielded. No condition. -/
import Derived.Test.YtkbfhgcjimfgkaaDoorWk
set_option linter.unusedVariables false
set_option linter.unusedSimpArgs false
namespace Go.Proofs.YtkbfhgcjimfgkaaDoor
open Go.RowKit

/-- a turn that has done nothing yet -/
theorem WkM.new {base g : Nat} {me epoch up : Int} {ready : Bool} {s : Str} {w : World} (hb : Blk g (.cells #[.int .i64 me, .int .i64 epoch, .int .i64 up, .bool ready, .string s, .slice none 0 0, .slice none 0 0, .slice none 0 0, .slice none 0 0, .slice none 0 0] 82 (0, 0)) w) (hg : base ≤ g) (h2 : 2 ≤ base) (hf : I64 me ∧ I64 epoch ∧ I64 up ∧ s.size ≤ strMax) :
    WkM base g ⟨⟨me, epoch, up, ready, s, [], [], []⟩, [], []⟩ (fun _ => .slice none 0 0) w :=
  ⟨hb, (fun j hj => by
    match j, hj with
    | 0, _ => exact OwnO.nil
    | 1, _ => exact OwnO.nil
    | 2, _ => exact OwnO.nil
    | 3, _ => exact OwnO.nil
    | 4, _ => exact OwnO.nil), hg, (fun i hi z hz => by cases hz), (fun i j hi hj hij z hz => by cases hz), hf, h2⟩
/-- a turn as a value: its block's cells -/
theorem WkG.val {base g : Nat} {t : Tn} {vs : Nat → Value} {w : World} (h : WkM base g t vs w) : TnVal (Fresh base w) t (.agg (tnCells t vs)) w := by
  have key : ∀ {α : Type} [Rep α] {l : List α} {j : Nat}, j < 5 → OwnO (WX base g vs) base (vs j) l w → ∃ a c, vs j = .slice a l.length c ∧ RdS (Fresh base w) w l a l.length c := by
    intro α _ l j hj ho
    rcases ho.row with ⟨a, hv, hl, h2⟩ | ⟨q, off, cap, hv, h1, h2, h3, h4, h5, h6⟩
    · subst hl
      exact ⟨a, 0, hv, RdS.empty' _ _ _⟩
    · exact ⟨_, cap, hv, rfl, h3, h4, (fun e => by cases e), fun _ => ⟨q, off, rfl, ⟨h1, h2⟩, h2, h6.imp rfl fun b hb => ⟨⟨Nat.le_of_not_lt fun hlt => hb.2.1 (.inl hlt), hb.1⟩, rfl⟩⟩⟩
  exact ⟨vs, rfl, h.fit, key (by omega) (h.rows 0 (by omega)), key (by omega) (h.rows 1 (by omega)), key (by omega) (h.rows 2 (by omega)), key (by omega) (h.rows 3 (by omega)), key (by omega) (h.rows 4 (by omega))⟩
/-- what a call that yields a turn leaves -/
def TurnP (t : Tn) (w : World) (e : Ending) (w' : World) : Prop := ∃ v, e = .returned (.tuple #[v, .int .i64 0]) ∧ TnVal (Fresh w.heap.size w') t v w' ∧ Below w.heap.size w w'
/-- a turn's value, opened -/
theorem TnVal.open {A : Nat → Prop} {t : Tn} {v : Value} {w : World} (h : TnVal A t v w) : ∃ a0 c0 a1 c1 a2 c2 a3 c3 a4 c4, v = .agg #[.int .i64 t.node.me, .int .i64 t.node.epoch, .int .i64 t.node.up, .bool t.node.ready, .string t.node.text, .slice a0 t.node.sides.length c0, .slice a1 t.node.undo.length c1, .slice a2 t.node.marks.length c2, .slice a3 t.posts.length c3, .slice a4 t.recs.length c4] ∧ t.node.fits ∧
    RdS A w t.node.sides a0 t.node.sides.length c0 ∧ RdS A w t.node.undo a1 t.node.undo.length c1 ∧ RdS A w t.node.marks a2 t.node.marks.length c2 ∧ RdS A w t.posts a3 t.posts.length c3 ∧ RdS A w t.recs a4 t.recs.length c4 := by
  obtain ⟨us, e, hf, ⟨a0, c0, e0, r0⟩, ⟨a1, c1, e1, r1⟩, ⟨a2, c2, e2, r2⟩, ⟨a3, c3, e3, r3⟩, a4, c4, e4, r4⟩ := h
  refine ⟨a0, c0, a1, c1, a2, c2, a3, c3, a4, c4, ?_, hf, r0, r1, r2, r3, r4⟩
  rw [e]
  unfold tnCells
  rw [e0, e1, e2, e3, e4]
/-- a turn is yielded through a result's box -/
theorem turn_out {base g b B : Nat} {t : Tn} {vs : Nat → Value} {w W : World} (h : WkM base g t vs W) (hx : Blk b (.cells zeroTn 35 (0, 0)) W) (h1 : b < base) (h2 : B ≤ b) (h3 : Below B w W) :
    ∃ a0 c0 a1 c1 a2 c2 a3 c3 a4 c4, Blk g (.cells #[.int .i64 t.node.me, .int .i64 t.node.epoch, .int .i64 t.node.up, .bool t.node.ready, .string t.node.text, .slice a0 t.node.sides.length c0, .slice a1 t.node.undo.length c1, .slice a2 t.node.marks.length c2, .slice a3 t.posts.length c3, .slice a4 t.recs.length c4] 82 (0, 0)) W ∧ Blk b (.cells #[.int .i64 t.node.me, .int .i64 t.node.epoch, .int .i64 t.node.up, .bool t.node.ready, .string t.node.text, .slice a0 t.node.sides.length c0, .slice a1 t.node.undo.length c1, .slice a2 t.node.marks.length c2, .slice a3 t.posts.length c3, .slice a4 t.recs.length c4] 35 (0, 0)) (set10w W b (.int .i64 t.node.me) (.int .i64 t.node.epoch) (.int .i64 t.node.up) (.bool t.node.ready) (.string t.node.text) (.slice a0 t.node.sides.length c0) (.slice a1 t.node.undo.length c1) (.slice a2 t.node.marks.length c2) (.slice a3 t.posts.length c3) (.slice a4 t.recs.length c4)) ∧
      TnVal (Fresh B (set10w W b (.int .i64 t.node.me) (.int .i64 t.node.epoch) (.int .i64 t.node.up) (.bool t.node.ready) (.string t.node.text) (.slice a0 t.node.sides.length c0) (.slice a1 t.node.undo.length c1) (.slice a2 t.node.marks.length c2) (.slice a3 t.posts.length c3) (.slice a4 t.recs.length c4))) t (.agg #[.int .i64 t.node.me, .int .i64 t.node.epoch, .int .i64 t.node.up, .bool t.node.ready, .string t.node.text, .slice a0 t.node.sides.length c0, .slice a1 t.node.undo.length c1, .slice a2 t.node.marks.length c2, .slice a3 t.posts.length c3, .slice a4 t.recs.length c4]) (set10w W b (.int .i64 t.node.me) (.int .i64 t.node.epoch) (.int .i64 t.node.up) (.bool t.node.ready) (.string t.node.text) (.slice a0 t.node.sides.length c0) (.slice a1 t.node.undo.length c1) (.slice a2 t.node.marks.length c2) (.slice a3 t.posts.length c3) (.slice a4 t.recs.length c4)) ∧ Below B w (set10w W b (.int .i64 t.node.me) (.int .i64 t.node.epoch) (.int .i64 t.node.up) (.bool t.node.ready) (.string t.node.text) (.slice a0 t.node.sides.length c0) (.slice a1 t.node.undo.length c1) (.slice a2 t.node.marks.length c2) (.slice a3 t.posts.length c3) (.slice a4 t.recs.length c4)) := by
  have hv := h.val
  have hgl := hx.lt
  have hsz := h3.size
  obtain ⟨us, e, hf, ⟨a0, c0, e0, r0⟩, ⟨a1, c1, e1, r1⟩, ⟨a2, c2, e2, r2⟩, ⟨a3, c3, e3, r3⟩, a4, c4, e4, r4⟩ := hv
  have hbx := h.box
  have eb : tnCells t vs = tnCells t us := by injection e
  rw [eb] at hbx
  unfold tnCells at hbx
  rw [e0, e1, e2, e3, e4] at hbx
  have ht := touch10 W b (.int .i64 t.node.me) (.int .i64 t.node.epoch) (.int .i64 t.node.up) (.bool t.node.ready) (.string t.node.text) (.slice a0 t.node.sides.length c0) (.slice a1 t.node.undo.length c1) (.slice a2 t.node.marks.length c2) (.slice a3 t.posts.length c3) (.slice a4 t.recs.length c4)
  have hA : ∀ z, Fresh base W z → Fresh B (set10w W b (.int .i64 t.node.me) (.int .i64 t.node.epoch) (.int .i64 t.node.up) (.bool t.node.ready) (.string t.node.text) (.slice a0 t.node.sides.length c0) (.slice a1 t.node.undo.length c1) (.slice a2 t.node.marks.length c2) (.slice a3 t.posts.length c3) (.slice a4 t.recs.length c4)) z ∧ (set10w W b (.int .i64 t.node.me) (.int .i64 t.node.epoch) (.int .i64 t.node.up) (.bool t.node.ready) (.string t.node.text) (.slice a0 t.node.sides.length c0) (.slice a1 t.node.undo.length c1) (.slice a2 t.node.marks.length c2) (.slice a3 t.posts.length c3) (.slice a4 t.recs.length c4)).heap[z]? = W.heap[z]? := fun z hz => ⟨⟨by have := hz.1; omega, Nat.lt_of_lt_of_le hz.2 ht.size⟩, ht.block z hz.2 (by have := hz.1; omega)⟩
  refine ⟨a0, c0, a1, c1, a2, c2, a3, c3, a4, c4, hbx, blk_set10 hx _ _ _ _ _ _ _ _ _ _, ⟨us, ?_, hf, ⟨a0, c0, e0, r0.mono hA⟩, ⟨a1, c1, e1, r1.mono hA⟩, ⟨a2, c2, e2, r2.mono hA⟩, ⟨a3, c3, e3, r3.mono hA⟩, a4, c4, e4, r4.mono hA⟩, h3.trans (ht.toBelow (by omega) (fun z hz => by omega))⟩
  unfold tnCells
  rw [e0, e1, e2, e3, e4]
end Go.Proofs.YtkbfhgcjimfgkaaDoor
