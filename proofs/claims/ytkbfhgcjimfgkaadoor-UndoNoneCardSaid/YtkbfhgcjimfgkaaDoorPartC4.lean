/- The walk of node.Edit, where it is not refused. -/
import Derived.Test.YtkbfhgcjimfgkaaDoorPartC3
import Derived.Test.YtkbfhgcjimfgkaaDoorPartA6
import Derived.Test.YtkbfhgcjimfgkaaDoorPartC0
import Derived.Test.YtkbfhgcjimfgkaaDoorPartB2
import Derived.Test.YtkbfhgcjimfgkaaDoorPartB9
set_option linter.unusedVariables false
set_option linter.unusedSimpArgs false
set_option linter.unusedSimpArgs false
namespace Go.Proofs.YtkbfhgcjimfgkaaDoor
open Go.RowKit
theorem full_short {n : Nd} {o : Op} (h1 : sumT o ≤ 300) (h2 : n.sides.any isFull = false) : (⟨n, [], []⟩ : Tn).full o = false := by
  unfold Tn.full
  show ((o.any isIns && decide (300 < sumT o)) || n.sides.any isFull) = false
  rw [h2]
  simp; omega
theorem editE_ok {n : Nd} {o : Op} (hr : n.ready = true) (h0 : checkText n.text = 0) (h1 : check o = 0) (h2 : sumF o = rc n.text) (h3 : sumT o ≤ 300) (h4 : n.sides.any isFull = false) : editE n o = 0 := by
  unfold editE
  rw [if_neg (by simp [hr]), if_neg (by simp [(apply_good h0 h1 h2).1]), if_neg (by simp [full_short h3 h4])]
def lone' (s : Str) : Nd := ⟨0, 4096, 0, true, s, [], [], []⟩
theorem lone'_begin (s : Str) : beginT [-1] ((0 : Nat) : Int) 1 s = ⟨lone' s, [], []⟩ := by
  have hn : nbs [-1] ((0 : Nat) : Int) = [] := by decide
  unfold beginT
  rw [if_neg (by simp)]
  unfold beginN lone'
  rw [hn]
  rfl
theorem lone'_good {s : Str} (hs : checkText s = 0) : NdGood [-1] (lone' s) ∧ NdB 0 (lone' s) := by
  have h := (begin_plain (t := [-1]) (k := 0) (by simp) (by decide) (b := 1) (by omega) (by omega) hs (fun h => by omega)).1
  rw [lone'_begin] at h
  exact ⟨h, fun s hs => by cases hs⟩
theorem lone'_beginE {s : Str} (hs : checkText s = 0) : beginE [-1] ((0 : Nat) : Int) 1 s = 0 := by
  unfold beginE
  rw [if_neg (by decide), if_neg (by decide), if_neg (by decide), if_neg (by simpa using hs), if_neg (by rintro ⟨h, -⟩; omega)]
theorem sel_edited {s : Str} {m : Mk} {l : List Raw} (hs : checkText s = 0) (h20 : rc s ≤ 20) (h0 : 0 ≤ rc s) (hm : selOk (lone' s) m) :
    NdGood [-1] (selT (lone' s) m).node ∧ NdB 0 (selT (lone' s) m).node ∧ selE (lone' s) m = 0 ∧ editE (selT (lone' s) m).node (mkOp (rc s) l) = 0 ∧
    ∃ k, (editT (selT (lone' s) m).node (mkOp (rc s) l)).node.marks = [k] ∧ I64 k.anchor ∧ I64 k.head ∧ 0 ≤ k.anchor ∧ k.anchor ≤ rc (editT (selT (lone' s) m).node (mkOp (rc s) l)).node.text ∧ 0 ≤ k.head ∧ k.head ≤ rc (editT (selT (lone' s) m).node (mkOp (rc s) l)).node.text ∧
      (m.anchor ≤ m.head → k.anchor ≤ k.head) ∧ (m.head < m.anchor → k.head ≤ k.anchor) ∧ rc (editT (selT (lone' s) m).node (mkOp (rc s) l)).node.text ≤ 44 ∧ (editT (selT (lone' s) m).node (mkOp (rc s) l)).node.text.size ≤ 16000 := by
  obtain ⟨g1, g2⟩ := lone'_good hs
  have hE : selE (lone' s) m = 0 := (if_neg (show ¬ (lone' s).ready = false by simp [lone'])).trans (if_neg (by simpa using hm))
  obtain ⟨q1, q2⟩ := sel_good g1 hE g2
  obtain ⟨o1, o2, o3, o4⟩ := mkOp_ok (rc s) l h0 (by omega)
  have hEd : editE (selT (lone' s) m).node (mkOp (rc s) l) = 0 := editE_ok (by rfl) hs o1 o2 (by omega) (by rfl)
  refine ⟨q1, q2, hE, hEd, mvM true (mkOp (rc s) l) m, ?_⟩
  obtain ⟨ss, e1, -⟩ := edited_node (selT (lone' s) m).node (selT (lone' s) m).node.undo (mkOp (rc s) l)
  have e2 : (editT (selT (lone' s) m).node (mkOp (rc s) l)).node.text = applyS s (mkOp (rc s) l) := by
    show ((⟨(selT (lone' s) m).node, [], []⟩ : Tn).edited _).node.text = _
    exact congrArg Nd.text e1
  have e3 : (editT (selT (lone' s) m).node (mkOp (rc s) l)).node.marks = [mvM true (mkOp (rc s) l) m] := by
    show ((⟨(selT (lone' s) m).node, [], []⟩ : Tn).edited _).node.marks = _
    exact congrArg Nd.marks e1
  obtain ⟨-, -, -, a4, -, a6⟩ := apply_good hs o1 o2
  rw [e2, e3, a4]
  have b1 := mvI_bound true o1 m.anchor
  have b2 := mvI_bound true o1 m.head
  have hp := (check_zero o1).2.1
  have in1 : mvI true (mkOp (rc s) l) m.anchor = mv true (mkOp (rc s) l) m.anchor 0 0 := by
    unfold mvI
    have h1 : m.anchor ≤ rc s := hm.2.1
    rw [if_neg (by rw [o2]; have := hm.1; omega)]
  have in2 : mvI true (mkOp (rc s) l) m.head = mv true (mkOp (rc s) l) m.head 0 0 := by
    unfold mvI
    have h1 : m.head ≤ rc s := hm.2.2.2
    rw [if_neg (by rw [o2]; have := hm.2.2.1; omega)]
  refine ⟨rfl, ⟨by show -9223372036854775808 ≤ mvI true _ m.anchor; omega, by show mvI true _ m.anchor ≤ _; omega⟩, ⟨by show -9223372036854775808 ≤ mvI true _ m.head; omega, by show mvI true _ m.head ≤ _; omega⟩, b1.1, b1.2.1, b2.1, b2.2.1, fun h => ?_, fun h => ?_, by omega, a6⟩
  · show mvI true _ m.anchor ≤ mvI true _ m.head
    rw [in1, in2]
    exact mv_mono true _ hp _ _ _ _ hm.1 h
  · show mvI true _ m.head ≤ mvI true _ m.anchor
    rw [in1, in2]
    exact mv_mono true _ hp _ _ _ _ hm.2.2.1 (by omega)
theorem sel_refused {s : Str} {m : Mk} (hm : ¬ selOk (lone' s) m) : selE (lone' s) m = 2 := (if_neg (show ¬ (lone' s).ready = false by simp [lone'])).trans (if_pos hm)
end Go.Proofs.YtkbfhgcjimfgkaaDoor
set_option linter.unusedSimpArgs false
namespace Go.Proofs.YtkbfhgcjimfgkaaDoor
open Go.RowKit
set_option maxRecDepth 100000 in
set_option maxHeartbeats 4000000 in
theorem invert_bad (s : Str) (o : Op) (a : Option Addr) (n c : Nat) (w : World) (hg : Good w) (hr : RdS (· < w.heap.size) w o a n c) (hs : s.size ≤ 70368744177664) (hE : applyE s o ≠ 0) :
    Calls Tryd.prog 56 #[.string s, .slice a n c] w fun e w' => e = .returned (.tuple #[.slice none 0 0, .int .i64 (applyE s o)]) ∧ Below w.heap.size w w' := by
  have HA := Lib.hid (apply_any s o a n c w hg hr hs)
  generalize applyS s o = ss at *
  generalize applyE s o = ee at *
  clear hr hg hs
  go_enter Tryd.func56, Tryd.ntmps56
  go_wp2_with fail
  refine HA.out.mono ?_
  rintro e w2 ⟨rfl, hb2⟩
  clear HA
  have HB := Lib.hid hb2
  clear hb2
  go_wp2_with fail
  go_ret2
  exact ⟨rfl, HB.out⟩
set_option maxRecDepth 100000 in
set_option maxHeartbeats 8000000 in
theorem ndEdit_away (base g : Nat) (t : Tn) (vs : Nat → Value) (o : Op) (oa : Option Addr) (oc : Nat) (w : World) (h : WkM base g t vs w) (hy : t.node.ready = false) :
    Calls Tryd.prog 34 #[.pointer (some ⟨g, 0, none⟩), .slice oa o.length oc] w fun e w' => e = .returned (.tuple #[.slice none 0 0, .int .i64 12]) ∧ Below w.heap.size w w' := by
  have HNP := Lib.hid (fun W => node_ptr g W)
  have hgl := h.lt
  obtain ⟨-, -, -, p3, -, -, -, -, -, -⟩ := blk10_cells h.box
  rw [hy] at p3
  clear h hy
  go_enter Tryd.func34, Tryd.ntmps34
  go_wp2_with fail
  refine (HNP.out w).mono ?_
  rintro e w1 ⟨rfl, rfl⟩
  go_wp2_with fail
  go_ret2
  exact ⟨rfl, Below.refl _ _⟩
set_option maxRecDepth 100000 in
set_option maxHeartbeats 8000000 in
theorem ndEdit_bad (base g : Nat) (t : Tn) (vs : Nat → Value) (o : Op) (oa : Option Addr) (oc : Nat) (w : World) (hg : Good w) (h : WkM base g t vs w) (hr : RdS (NM g vs w) w o oa o.length oc) (hy : t.node.ready = true) (h0 : checkText t.node.text = 0) (hE : applyE t.node.text o ≠ 0) :
    Calls Tryd.prog 34 #[.pointer (some ⟨g, 0, none⟩), .slice oa o.length oc] w fun e w' => e = .returned (.tuple #[.slice none 0 0, .int .i64 (applyE t.node.text o)]) ∧ Below w.heap.size w w' := by
  have HI := Lib.hid (invert_bad t.node.text o oa _ oc w hg (hr.mono fun z hz => ⟨hz.1, rfl⟩) (text_small h0) hE)
  have HNP := Lib.hid (fun W => node_ptr g W)
  have hgl := h.lt
  obtain ⟨-, -, -, p3, p4, -, -, -, -, -⟩ := blk10_cells h.box
  rw [hy] at p3
  generalize applyE t.node.text o = ee at *
  clear h hy hg hr h0
  go_enter Tryd.func34, Tryd.ntmps34
  go_wp2_with fail
  refine (HNP.out w).mono ?_
  rintro e w1 ⟨rfl, rfl⟩
  go_wp2_with fail
  refine HI.out.mono ?_
  rintro e w2 ⟨rfl, hb⟩
  have HB := Lib.hid hb
  clear hb HI
  go_wp2_with fail
  go_ret2
  exact ⟨rfl, HB.out⟩
end Go.Proofs.YtkbfhgcjimfgkaaDoor
set_option linter.unusedSimpArgs false
namespace Go.Proofs.YtkbfhgcjimfgkaaDoor
open Go.RowKit
theorem sd_short {n : Nd} {s : Sd} (h : sideOk n s = true) (hq : s.l.queue.length ≤ 1048576) : s.short := by
  unfold sideOk at h
  by_cases h1 : edgeCheck s.e.sent s.e.heard s.e.pending = 0
  · rw [if_neg (by simpa using h1)] at h
    by_cases h2 : s.l.check = 0
    · obtain ⟨-, e2, -, -, e3, e4⟩ := edgeCheck_all h1
      obtain ⟨-, -, -, -, -, -, l1, -, -, l2, l3, -⟩ := lk_zero h2
      refine ⟨fun o ho => ?_, by omega, fun f hf => ?_, by omega, fun f hf => ?_, hq⟩
      · have := (check_zero (e4 o ho)).1; omega
      · have := frame_ops l2 f hf; omega
      · have := frame_ops l3 f hf; omega
    · rw [if_pos h2] at h; cases h
  · rw [if_pos h1] at h; cases h
/-- queues that are not too long -/
def NdQ (n : Nd) : Prop := ∀ s ∈ n.sides, s.l.queue.length ≤ 1000000
/-- a turn of a node has begun -/
def BegunP (n : Nd) (w : World) (e : Ending) (w' : World) : Prop := ∃ g vs, e = .returned (.tuple #[.pointer (some ⟨g, 0, none⟩), .int .i64 0]) ∧ WkM w.heap.size g ⟨n, [], []⟩ vs w' ∧ Below w.heap.size w w'
theorem begun {n : Nd} {w w4 W : World} {S1 S2 g : Nat} {v0 v1 v2 : Value} (hb : Blk g (.cells #[.int .i64 n.me, .int .i64 n.epoch, .int .i64 n.up, .bool n.ready, .string n.text, v0, v1, v2, .slice none 0 0, .slice none 0 0] 82 (0, 0)) W)
    (hg : g = w4.heap.size) (h1 : w.heap.size ≤ S1) (h2 : S1 ≤ S2) (h3 : S2 ≤ w4.heap.size) (hB : Below w4.heap.size w4 W) (o2 : OwnO (fun z => z < w.heap.size ∨ S1 ≤ z) w.heap.size v2 n.marks w4) (o0 : OwnO (fun z => z < S1 ∨ S2 ≤ z) S1 v0 n.sides w4) (o1 : OwnO (fun z => z < S2) S2 v1 n.undo w4) (l2 : ∀ k, v2.ownBlock = some k → k < S1) (l0 : ∀ k, v0.ownBlock = some k → k < S2) (hf : n.fits) (hw : 2 ≤ w.heap.size) :
    WkM w.heap.size g ⟨n, [], []⟩ (fun j => match j with | 0 => v0 | 1 => v1 | 2 => v2 | _ => .slice none 0 0) W := by
  have r0 := o0.rowlt
  have r1 := o1.rowlt
  have r2 := o2.rowlt
  have hX : ∀ z, WX w.heap.size g (fun j => match j with | 0 => v0 | 1 => v1 | 2 => v2 | _ => .slice none 0 0) z → z < w.heap.size ∨ z = g ∨ v0.ownBlock = some z ∨ v1.ownBlock = some z ∨ v2.ownBlock = some z := by
    rintro z (h | h | ⟨j, hj, h⟩)
    · exact .inl h
    · exact .inr (.inl h)
    · match j, hj, h with
      | 0, _, h => exact .inr (.inr (.inl h))
      | 1, _, h => exact .inr (.inr (.inr (.inl h)))
      | 2, _, h => exact .inr (.inr (.inr (.inr h)))
      | 3, _, h => cases h
      | 4, _, h => cases h
  have hk : ∀ k, k < w4.heap.size → W.heap[k]? = w4.heap[k]? := fun k hk => hB.block k hk
  have b0 : rowOk w.heap.size (WX w.heap.size g (fun j => match j with | 0 => v0 | 1 => v1 | 2 => v2 | _ => .slice none 0 0)) ⟨n, [], []⟩ 0 v0 W := rowOk.keep (j := 0) (X := fun z => z < S1 ∨ S2 ≤ z) (o0.low h1) hB.size (fun k hk' _ => hk k hk') (fun k hk' hx => by
    rcases hX k hx with h | h | h | h | h
    · exact .inl (.inl (by omega))
    · omega
    · exact .inr h
    · exact .inl (.inr (r1 k h).1)
    · exact .inl (.inl (l2 k h)))
  have b1 : rowOk w.heap.size (WX w.heap.size g (fun j => match j with | 0 => v0 | 1 => v1 | 2 => v2 | _ => .slice none 0 0)) ⟨n, [], []⟩ 1 v1 W := rowOk.keep (j := 1) (X := fun z => z < S2) (o1.low (Nat.le_trans h1 h2)) hB.size (fun k hk' _ => hk k hk') (fun k hk' hx => by
    rcases hX k hx with h | h | h | h | h
    · exact .inl (show k < S2 by omega)
    · omega
    · exact .inl (l0 k h)
    · exact .inr h
    · exact .inl (show k < S2 from Nat.lt_of_lt_of_le (l2 k h) h2))
  have b2 : rowOk w.heap.size (WX w.heap.size g (fun j => match j with | 0 => v0 | 1 => v1 | 2 => v2 | _ => .slice none 0 0)) ⟨n, [], []⟩ 2 v2 W := rowOk.keep (j := 2) (X := fun z => z < w.heap.size ∨ S1 ≤ z) o2 hB.size (fun k hk' _ => hk k hk') (fun k hk' hx => by
    rcases hX k hx with h | h | h | h | h
    · exact .inl (.inl h)
    · omega
    · exact .inl (.inr (r0 k h).1)
    · exact .inl (.inr (Nat.le_trans h2 (r1 k h).1))
    · exact .inr h)
  refine ⟨hb, fun j hj => ?_, by omega, fun i hi z hz => ?_, fun i j hi hj hij z hz e => ?_, hf, hw⟩
  · match j, hj with
    | 0, _ => exact b0
    | 1, _ => exact b1
    | 2, _ => exact b2
    | 3, _ => exact OwnO.nil
    | 4, _ => exact OwnO.nil
  · match i, hi, hz with
    | 0, _, hz => have := (r0 z hz).2; omega
    | 1, _, hz => have := (r1 z hz).2; omega
    | 2, _, hz => have := (r2 z hz).2; omega
    | 3, _, hz => cases hz
    | 4, _, hz => cases hz
  · match i, j, hi, hj, hij, hz, e with
    | 0, 1, _, _, _, hz, e => have := l0 z hz; have := (r1 z e).1; omega
    | 0, 2, _, _, _, hz, e => have := l2 z e; have := (r0 z hz).1; omega
    | 1, 0, _, _, _, hz, e => have := l0 z e; have := (r1 z hz).1; omega
    | 1, 2, _, _, _, hz, e => have := l2 z e; have := (r1 z hz).1; omega
    | 2, 0, _, _, _, hz, e => have := l2 z hz; have := (r0 z e).1; omega
    | 2, 1, _, _, _, hz, e => have := l2 z hz; have := (r1 z e).1; omega
    | 3, _, _, _, _, hz, _ => cases hz
    | 4, _, _, _, _, hz, _ => cases hz
    | _, 3, _, _, _, _, e => cases e
    | _, 4, _, _, _, _, e => cases e
    | 0, 0, _, _, hij, _, _ => exact absurd rfl hij
    | 1, 1, _, _, hij, _, _ => exact absurd rfl hij
    | 2, 2, _, _, hij, _, _ => exact absurd rfl hij
    | i + 5, _, hi, _, _, _, _ => omega
    | _, j + 5, _, hj, _, _, _ => omega
set_option maxRecDepth 100000 in
set_option maxHeartbeats 4000000 in
theorem ndBegin_good (t : List Int) (ta : Option Addr) (tn tc : Nat) (n : Nd) (a : Option Addr) (c : Nat) (ua : Option Addr) (uc : Nat) (ma : Option Addr) (mc : Nat) (w : World) (hg : Good w) (ht : RdS (· < w.heap.size) w t ta tn tc)
    (h1 : RdS (· < w.heap.size) w n.sides a n.sides.length c) (h2 : RdS (· < w.heap.size) w n.undo ua n.undo.length uc) (h3 : RdS (· < w.heap.size) w n.marks ma n.marks.length mc) (hf : n.fits) (hG : NdGood t n) (hQ : NdQ n) :
    Calls Tryd.prog 33 #[.slice ta tn tc, .agg #[.int .i64 n.me, .int .i64 n.epoch, .int .i64 n.up, .bool n.ready, .string n.text, .slice a n.sides.length c, .slice ua n.undo.length uc, .slice ma n.marks.length mc]] w (BegunP n w) := by
  have HC := Lib.hid (fun W (hW : Below w.heap.size w W) => ndCheck_good t ta tn tc n a c ua uc ma mc W (hg.go hW) (ht.go hW) (h1.go hW) (h2.go hW) (h3.go hW) hf hG)
  have hsh : ∀ s ∈ n.sides, s.short := fun s hs => by
    obtain ⟨i, hi, rfl⟩ := List.mem_iff_getElem.1 hs
    exact sd_short (hG.side i hi).2 (by have := hQ _ hs; omega)
  have hsl : n.sides.length ≤ 1000 := by
    have h1 := hG.len
    have h2 := nbs_len t n.me
    have h3 : t.length ≤ 7 := by
      have g1 := hG.tree
      unfold checkTree at g1
      by_cases h : t.length < 1 ∨ 7 < t.length
      · rw [if_pos h] at g1; exact absurd g1 (by decide)
      · omega
    omega
  have HO := Lib.hid (fun W (hW : Below w.heap.size w W) => ndOwn_any n a c ua uc ma mc W (h1.go hW) (h2.go hW) (h3.go hW) (fun o ho => by have := (check_zero (hG.undos.2 o ho)).1; omega) hsh hsl (by have := hG.undos.1; omega) (by have := hG.marks1; omega))
  have hg2 := Lib.hid hg.size
  have Hf := Lib.hid hf
  have HP : Hid (∀ g vs W, WkM w.heap.size g ⟨n, [], []⟩ vs W → Below w.heap.size w W → BegunP n w (.returned (.tuple #[.pointer (some ⟨g, 0, none⟩), .int .i64 0])) W) := fun g vs W h1 h2 => ⟨g, vs, rfl, h1, h2⟩
  generalize BegunP n w = RP at *
  clear hg ht h1 h2 h3 hf hG hQ hsh hsl
  go_enter Tryd.func33, Tryd.ntmps33
  go_wp2_with fail
  refine abs_run (fun W => Below w.heap.size w W ∧ Blk w.heap.size (.cells #[.int .i64 n.me, .int .i64 n.epoch, .int .i64 n.up, .bool n.ready, .string n.text, .slice a n.sides.length c, .slice ua n.undo.length uc, .slice ma n.marks.length mc] 31 (0, 0)) W) ⟨(Below.refl _ _).alloc (Nat.le_refl _) _, Blk.new w _⟩ ?_
  rintro w1 ⟨b1, x1⟩
  have B1 := Lib.hid b1
  refine (HC.out _ b1).mono ?_
  rintro e w2 ⟨rfl, b2⟩
  have B2 := Lib.hid (up b1 b2)
  have X2 := Lib.hid (x1.go b2)
  obtain ⟨p0, p1, p2, p3, p4, p5, p6, p7⟩ := blk8_cells X2.out
  clear b1 b2 x1 HC B1
  go_wp2_with fail
  refine (HO.out _ B2.out).mono ?_
  rintro e w4 ⟨S1, S2, v0, v1, v2, rfl, s1, s2, s3, o2, o0, o1, hb, l2, l0⟩
  obtain ⟨a0, c0, rfl⟩ := own_app o0
  obtain ⟨a1, c1, rfl⟩ := own_app o1
  obtain ⟨a2, c2, rfl⟩ := own_app o2
  have hz2 := B2.out.size
  have HW : Hid (∀ W, Blk w4.heap.size (.cells #[.int .i64 n.me, .int .i64 n.epoch, .int .i64 n.up, .bool n.ready, .string n.text, .slice a0 n.sides.length c0, .slice a1 n.undo.length c1, .slice a2 n.marks.length c2, .slice none 0 0, .slice none 0 0] 82 (0, 0)) W → Below w4.heap.size w4 W → ∃ vs, WkM w.heap.size w4.heap.size ⟨n, [], []⟩ vs W) := fun W hb' hW =>
    ⟨_, begun (S1 := S1) (S2 := S2) hb' rfl (by omega) s2 s3 hW ((o2.more (fun z hz hx => by
      rcases hx with hx | hx
      · exact .inl (by omega)
      · exact .inr hx)).low hz2) o0 o1 l2 l0 Hf.out hg2.out⟩
  have B4 := Lib.hid (up B2.out hb)
  clear o0 o1 o2 l2 l0 s1 s2 s3 hb HO X2 p0 p1 p2 p3 p4 p5 p6 p7
  go_wp2_with fail
  obtain ⟨vs, h⟩ := HW.out (w4.alloc _) (Blk.new w4 _) ((Below.refl _ _).alloc (Nat.le_refl _) _)
  exact HP.out _ vs _ h (B4.out.alloc B4.out.size _)
end Go.Proofs.YtkbfhgcjimfgkaaDoor
set_option linter.unusedSimpArgs false
namespace Go.Proofs.YtkbfhgcjimfgkaaDoor
open Go.RowKit
/-- a turn, or a refusal -/
def TurnE (E : Int) (t : Tn) (w : World) (e : Ending) (w' : World) : Prop := if E = 0 then TurnP t w e w' else e = .returned (.tuple #[.agg zeroTn, .int .i64 E]) ∧ Below w.heap.size w w'
theorem NdB.queue {t : List Int} {n : Nd} {b : Int} (h : NdB b n) (hG : NdGood t n) (hb : b < 1000000) : NdQ n := by
  intro s hs
  obtain ⟨-, -, h3, -⟩ := h s hs
  obtain ⟨i, hi, rfl⟩ := List.getElem_of_mem hs
  obtain ⟨-, h4, -⟩ := sideOk_all (hG.side i hi).2
  have := (lk_zero h4).2.2.1
  omega
theorem good_len {t : List Int} {n : Nd} (hG : NdGood t n) : n.sides.length ≤ 8 := by
  have h1 := hG.len
  have h2 := nbs_len t n.me
  have h3 : t.length ≤ 7 := by
    have g1 := hG.tree
    unfold checkTree at g1
    by_cases h : t.length < 1 ∨ 7 < t.length
    · rw [if_pos h] at g1; exact absurd g1 (by decide)
    · omega
  omega
/-- what a turn asks for to forward -/
def FwdOk (tn : Tn) (o : Op) (but : Int) : Prop :=
  (∀ k, k < tn.node.sides.length → ((tn.recd o).fwdK o but (k + 1)).posts.length ≤ 1000000 ∧ ((tn.recd o).fwdK o but k).posts.length ≤ 1000000) ∧ (∀ k, k < tn.node.sides.length → (((tn.recd o).fwdK o but k).side k).joined = true → (k : Int) ≠ but → sendE (((tn.recd o).fwdK o but k).side k).e.sent (((tn.recd o).fwdK o but k).side k).e.heard (((tn.recd o).fwdK o but k).side k).e.pending o = 0 ∧ (((tn.recd o).fwdK o but k).side k).l.queue.length ≤ 1000000)
theorem fwd_cond {n : Nd} {tn : Tn} {o : Op} {b : Int} (but : Int) (hl : tn.node.sides.length ≤ 8) (hp : tn.posts.length ≤ 1000) (hs : ∀ k (h : k < tn.node.sides.length), (k : Int) ≠ but → sideOk n tn.node.sides[k] = true ∧ SdB b tn.node.sides[k]) (ho : check o = 0) (hF : sumF o = rc n.text) (hb : b < 1000000) : FwdOk tn o but := by
  refine ⟨fun k hk => ?_, fun k hk hj hne => ?_⟩
  · have h1 := fwdK_posts (tn.recd o) o but (k + 1)
    have h2 := fwdK_posts (tn.recd o) o but k
    rw [recd_posts] at h1 h2
    omega
  · have e1 := fwdK_side (tn.recd o) o but k k (Nat.le_refl _)
    rw [recd_side, tn.side_get k hk] at e1
    rw [e1] at hj ⊢
    obtain ⟨h1, h2⟩ := hs k hk hne
    obtain ⟨k1, k2, -, k4⟩ := sideOk_all h1
    obtain ⟨b1, b2, b3, -⟩ := h2
    have h5 := (lk_zero k2).2.2.1
    exact ⟨edge_sends k1 (k4 hj).1 ho hF (by omega), by omega⟩
theorem edit_cond {t : List Int} {n : Nd} {o : Op} {b : Int} (u : List Op) (hG : NdGood t n) (ho : check o = 0) (hF : sumF o = rc n.text) (hB : NdB b n) (hb : b < 1000000) : FwdOk (((⟨{ n with undo := u }, [], []⟩ : Tn).setText (applyS n.text o)).move true o) o (-1) := by
  refine fwd_cond (n := n) (b := b) (-1) (show n.sides.length ≤ 8 from good_len hG) (by show ([] : List Po).length ≤ _; simp) (fun k hk _ => ⟨(hG.side k hk).2, hB _ (List.getElem_mem hk)⟩) ho hF hb
/-- an edit that is not refused -/
theorem ndEdit_go {base g : Nat} {t : Tn} {vs : Nat → Value} {o : Op} {oa : Option Addr} {oc : Nat} {w : World} {tr : List Int} {n : Nd} {u : List Op} {b : Int} (hn : t = ⟨{ n with undo := u }, [], []⟩) (hg : Good w) (h : WkM base g t vs w) (hr : RdS (NM g vs w) w o oa o.length oc) (hG : NdGood tr n) (hB : NdB b n) (hb : b < 1000000) (hE : n.ready = true) (hA : applyE n.text o = 0) (hF : t.full o = false) :
    Calls Tryd.prog 34 #[.pointer (some ⟨g, 0, none⟩), .slice oa o.length oc] w fun e w' => ∃ (ba : Option Addr) (bc : Nat), e = .returned (.tuple #[.slice ba (invO n.text o).length bc, .int .i64 0]) ∧
      ∃ v2, WkM base g (t.edited o) v2 w' ∧ Touch (Mine g vs) w w' ∧ (∀ z, Mine g v2 z → Mine g vs z ∨ w.heap.size ≤ z) ∧ RdS (fun z => z < w'.heap.size ∧ w.heap.size ≤ z ∧ ¬ Mine g v2 z) w' (invO n.text o) ba (invO n.text o).length bc := by
  subst hn
  obtain ⟨h0, h1, h2⟩ := applyE_zero hA
  have hc := edit_cond u hG h1 h2 hB hb
  refine ndEdit_ok base g _ vs o oa oc w hg h hr hE h0 h1 h2 hF (fun v2 W hW hM hR => ?_) (by have := hG.marks1; show n.marks.length ≤ _; omega)
  exact ndForward_any base g _ v2 o oa oc (-1) W hW hM hR h1 (by unfold I64; decide) (by show ([] : List Rec).length ≤ _; simp) hc.1 hc.2
/-- .. and one that is -/
theorem ndEdit_no {base g : Nat} {t : Tn} {vs : Nat → Value} {o : Op} {oa : Option Addr} {oc : Nat} {w : World} (hg : Good w) (h : WkM base g t vs w) (hr : RdS (NM g vs w) w o oa o.length oc) (h0 : checkText t.node.text = 0) (hE : t.node.ready = false ∨ applyE t.node.text o ≠ 0 ∨ t.full o = true) :
    Calls Tryd.prog 34 #[.pointer (some ⟨g, 0, none⟩), .slice oa o.length oc] w fun e w' => e = .returned (.tuple #[.slice none 0 0, .int .i64 (if t.node.ready = false then 12 else if applyE t.node.text o ≠ 0 then applyE t.node.text o else 8)]) ∧ Below w.heap.size w w' := by
  by_cases hy : t.node.ready = false
  · rw [if_pos hy]
    exact ndEdit_away base g t vs o oa oc w h hy
  · rw [if_neg hy]
    have hy' : t.node.ready = true := by simpa using hy
    by_cases hA : applyE t.node.text o ≠ 0
    · rw [if_pos hA]
      exact ndEdit_bad base g t vs o oa oc w hg h hr hy' h0 hA
    · rw [if_neg hA]
      obtain ⟨-, h1, h2⟩ := applyE_zero (by simpa using hA)
      refine ndEdit_full base g t vs o oa oc w hg h hr hy' h0 h1 h2 ?_
      rcases hE with h | h | h
      · exact absurd h hy
      · exact absurd h hA
      · exact h
/-- another call's reading lies not in a turn's own memory -/
theorem WkM.nm {α : Type} [Rep α] {base g : Nat} {t : Tn} {vs : Nat → Value} {w w0 : World} {l : List α} {a : Option Addr} {n c : Nat} (h : WkM base g t vs w) (hr : RdS (· < w0.heap.size) w0 l a n c) (hb : Below w0.heap.size w0 w) (hB : w0.heap.size ≤ base) : RdS (NM g vs w) w l a n c :=
  hr.mono fun z hz => ⟨⟨Nat.lt_of_lt_of_le hz hb.size, fun hm => by have := (h.mine z hm).1; have hz' : z < w0.heap.size := hz; omega⟩, hb.block z hz⟩
end Go.Proofs.YtkbfhgcjimfgkaaDoor
set_option linter.unusedSimpArgs false
namespace Go.Proofs.YtkbfhgcjimfgkaaDoor
open Go.RowKit
set_option maxRecDepth 100000 in
set_option maxHeartbeats 8000000 in
theorem edit_bad (t : List Int) (ta : Option Addr) (tn tc : Nat) (n : Nd) (a : Option Addr) (c : Nat) (ua : Option Addr) (uc : Nat) (ma : Option Addr) (mc : Nat) (o : Op) (oa : Option Addr) (oc : Nat) (b : Int) (w : World) (hg : Good w) (ht : RdS (· < w.heap.size) w t ta tn tc)
    (h1 : RdS (· < w.heap.size) w n.sides a n.sides.length c) (h2 : RdS (· < w.heap.size) w n.undo ua n.undo.length uc) (h3 : RdS (· < w.heap.size) w n.marks ma n.marks.length mc) (hf : n.fits) (ho : RdS (· < w.heap.size) w o oa o.length oc) (hG : NdGood t n) (hB : NdB b n) (hb : b < 1000000) (hE : editE n o ≠ 0) :
    Calls Tryd.prog 16 #[.slice ta tn tc, .agg #[.int .i64 n.me, .int .i64 n.epoch, .int .i64 n.up, .bool n.ready, .string n.text, .slice a n.sides.length c, .slice ua n.undo.length uc, .slice ma n.marks.length mc], .slice oa o.length oc] w (TurnE (editE n o) (editT n o) w) := by
  have HBg := Lib.hid (fun W (hW : Below w.heap.size w W) => ndBegin_good t ta tn tc n a c ua uc ma mc W (hg.go hW) (ht.go hW) (h1.go hW) (h2.go hW) (h3.go hW) hf hG (hB.queue hG hb))
  have HEd := Lib.hid (fun base g vs W (hg : Good W) (hM : WkM base g ⟨n, [], []⟩ vs W) (hr : RdS (NM g vs W) W o oa o.length oc) => ndEdit_no hg hM hr hG.text (by
    unfold editE at hE
    by_cases h1 : n.ready = false
    · exact .inl h1
    · rw [if_neg h1] at hE
      by_cases h2 : applyE n.text o ≠ 0
      · exact .inr (.inl h2)
      · rw [if_neg h2] at hE
        refine .inr (.inr ?_)
        by_cases h3 : (⟨n, [], []⟩ : Tn).full o = true
        · exact h3
        · rw [if_neg h3] at hE; exact absurd rfl hE))
  have hEE : editE n o = (if n.ready = false then 12 else if applyE n.text o ≠ 0 then applyE n.text o else 8) := by
    unfold editE at hE ⊢
    by_cases h1 : n.ready = false
    · rw [if_pos h1, if_pos h1]
    · rw [if_neg h1] at hE ⊢
      rw [if_neg h1]
      by_cases h2 : applyE n.text o ≠ 0
      · rw [if_pos h2, if_pos h2]
      · rw [if_neg h2] at hE ⊢
        rw [if_neg h2]
        by_cases h3 : (⟨n, [], []⟩ : Tn).full o = true
        · rw [if_pos h3]
        · rw [if_neg h3] at hE; exact absurd rfl hE
  have hnm : ∀ base g vs W, WkM base g ⟨n, [], []⟩ vs W → w.heap.size ≤ base → Below w.heap.size w W → RdS (NM g vs W) W o oa o.length oc := fun base g vs W hM h1 h2 => hM.nm ho h2 h1
  have Hnm := Lib.hid hnm
  have Hg := Lib.hid hg
  obtain ⟨E, hEq⟩ : ∃ E, E = editE n o := ⟨_, rfl⟩
  unfold TurnE
  rw [← hEq] at hE hEE ⊢
  simp only [if_neg hE]
  have hEd2 := HEd.out
  simp only [← hEE] at hEd2
  clear HEd
  have HEd := Lib.hid hEd2
  have hgz := hg.size
  have hEb : (E != 0) = true := by simp [hE]
  clear hEd2 hEE hnm hEq ht h1 h2 h3 hf ho hG hB hg hb
  go_enter Tryd.func16, Tryd.ntmps16
  go_wp2_with fail
  refine abs_run (fun W => Below w.heap.size w W ∧ Blk w.heap.size (.cells #[.int .i64 n.me, .int .i64 n.epoch, .int .i64 n.up, .bool n.ready, .string n.text, .slice a n.sides.length c, .slice ua n.undo.length uc, .slice ma n.marks.length mc] 31 (0, 0)) W ∧ Blk (w.heap.size + 1) (.cells zeroTn 35 (0, 0)) W) ⟨by (repeat (first | exact Below.refl _ _ | assumption | (refine Below.drew ?_) | (refine below_drewN ?_ _) | (refine Below.alloc ?_ (by first | (simp; done) | (simp; omega) | omega) _) | (refine Below.setCell ?_ (by first | (simp; done) | (simp; omega) | omega) _) | (refine Below.trans ?_ (Below.mono (by assumption) (by first | (simp; done) | (simp; omega) | omega))))), (Blk.new w _).alloc _, Blk.at _ _ _ (by simp)⟩ ?_
  rintro w1 ⟨b1, x0, x1⟩
  have B1 := Lib.hid b1
  have X1 := Lib.hid x1
  have hx1 := x1.lt
  clear b1 x0 x1
  refine (HBg.out w1 B1.out).mono ?_
  rintro e w2 ⟨g, vs, rfl, m2, b2⟩
  have M2 := Lib.hid m2
  have B2 := Lib.hid (up B1.out b2)
  have X2 := Lib.hid (X1.out.go b2)
  have hz12 := b2.size
  clear m2 b2 HBg X1
  go_wp2_with fail
  refine (HEd.out _ _ _ _ (Hg.out.go B2.out) M2.out (Hnm.out _ _ _ _ M2.out (by omega) B2.out)).mono ?_
  rintro e w3 ⟨rfl, b3⟩
  have B3 := Lib.hid (up B2.out b3)
  have X3 := Lib.hid (X2.out.go b3)
  have hz := X3.out.lt
  obtain ⟨p0, p1, p2, p3, p4, p5, p6, p7, p8, p9⟩ := blk10_cells X3.out
  have pf := X3.out.frozen
  have G := Lib.hid (zero_turn (w := w) (b := w.heap.size + 1) (by omega) X3.out B3.out)
  clear b3 HEd X2 B2
  go_wp2_with fail
  refine abs_ret (fun W => Blk (w.heap.size + 1) (.cells zeroTn 35 (0, 0)) W ∧ Below w.heap.size w W) G.out ?_
  rintro W ⟨y1, y2⟩
  obtain ⟨k0, k1, k2, k3, k4, k5, k6, k7, k8, k9⟩ := blk10_cells y1
  exact bodyPost_ret (v := .tuple #[.agg zeroTn, .int .i64 E]) (by simp [results, Tryd.results16, go_sem, k0, k1, k2, k3, k4, k5, k6, k7, k8, k9]) rfl ⟨rfl, y2⟩
end Go.Proofs.YtkbfhgcjimfgkaaDoor
set_option linter.unusedSimpArgs false
namespace Go.Proofs.YtkbfhgcjimfgkaaDoor
open Go.RowKit
set_option maxRecDepth 100000 in
set_option maxHeartbeats 8000000 in
theorem edit_ok (t : List Int) (ta : Option Addr) (tn tc : Nat) (n : Nd) (a : Option Addr) (c : Nat) (ua : Option Addr) (uc : Nat) (ma : Option Addr) (mc : Nat) (o : Op) (oa : Option Addr) (oc : Nat) (b : Int) (w : World) (hg : Good w) (ht : RdS (· < w.heap.size) w t ta tn tc)
    (h1 : RdS (· < w.heap.size) w n.sides a n.sides.length c) (h2 : RdS (· < w.heap.size) w n.undo ua n.undo.length uc) (h3 : RdS (· < w.heap.size) w n.marks ma n.marks.length mc) (hf : n.fits) (ho : RdS (· < w.heap.size) w o oa o.length oc) (hG : NdGood t n) (hB : NdB b n) (hb : b < 1000000) (hE : editE n o = 0) :
    Calls Tryd.prog 16 #[.slice ta tn tc, .agg #[.int .i64 n.me, .int .i64 n.epoch, .int .i64 n.up, .bool n.ready, .string n.text, .slice a n.sides.length c, .slice ua n.undo.length uc, .slice ma n.marks.length mc], .slice oa o.length oc] w (TurnP (editT n o) w) := by
  obtain ⟨e1, e2, e3⟩ := editE_zero hE
  have HBg := Lib.hid (fun W (hW : Below w.heap.size w W) => ndBegin_good t ta tn tc n a c ua uc ma mc W (hg.go hW) (ht.go hW) (h1.go hW) (h2.go hW) (h3.go hW) hf hG (hB.queue hG hb))
  have HEd := Lib.hid (fun base g vs W (hg : Good W) (hM : WkM base g ⟨n, [], []⟩ vs W) (hr : RdS (NM g vs W) W o oa o.length oc) => ndEdit_go (n := n) (u := n.undo) rfl hg hM hr hG hB hb e1 e2 e3)
  have Hnm := Lib.hid (fun base g vs W (hM : WkM base g ⟨n, [], []⟩ vs W) (h1 : w.heap.size ≤ base) (h2 : Below w.heap.size w W) => hM.nm ho h2 h1)
  have Hg := Lib.hid hg
  have hgz := hg.size
  have HNP := Lib.hid (fun g W => node_ptr g W)
  obtain ⟨BK, hBK⟩ : ∃ BK, Hid (BK = invO n.text o) := ⟨_, rfl⟩
  rw [← hBK.out] at HEd
  obtain ⟨i0, hi, hz0, hz1, hz2⟩ := info_parts infoO
  have Hi := Lib.hid hi
  have Hz0 := Lib.hid hz0
  have Hz1 := Lib.hid hz1
  have Hz2 := Lib.hid hz2
  obtain ⟨TT, hTT⟩ : ∃ TT, Hid (TT = editT n o) := ⟨_, rfl⟩
  rw [← hTT.out]
  obtain ⟨TE, hTE⟩ : ∃ TE, Hid (TE = (⟨n, [], []⟩ : Tn).edited o) := ⟨_, rfl⟩
  have hul : TE.node.undo = n.undo := by
    obtain ⟨ss, q1, -⟩ := edited_node n n.undo o
    have q2 := congrArg Nd.undo q1
    rw [hTE.out]
    exact q2
  have hu12 := (undoOk_all hG.undo).2
  have HTT : Hid (TT = TE.setUndo (pushed n.undo BK)) := by
    unfold Hid
    rw [hTT.out, hBK.out, ← hul, hTE.out]
    rfl
  have hel : Hid (∀ base g vs W, WkM base g ⟨n, [], []⟩ vs W → Good W → RdS (NM g vs W) W o oa o.length oc → Calls Tryd.prog 34 #[.pointer (some ⟨g, 0, none⟩), .slice oa o.length oc] W fun e w' => ∃ (ba : Option Addr) (bc : Nat), e = .returned (.tuple #[.slice ba BK.length bc, .int .i64 0]) ∧
      ∃ v2, WkM base g TE v2 w' ∧ Touch (Mine g vs) W w' ∧ (∀ z, Mine g v2 z → Mine g vs z ∨ W.heap.size ≤ z) ∧ RdS (fun z => z < w'.heap.size ∧ W.heap.size ≤ z ∧ ¬ Mine g v2 z) w' BK ba BK.length bc) := by
    unfold Hid
    intro base g vs W hM hg hr
    rw [hTE.out]
    exact HEd.out base g vs W hg hM hr
  have Hul := Lib.hid hul
  have hpush : Hid (pushed n.undo BK = if 12 < n.undo.length + 1 then (n.undo ++ [BK]).drop 1 else n.undo ++ [BK]) := by
    unfold Hid pushed; rw [List.length_append]; rfl
  generalize hUL : n.undo.length = ul at *
  have HUL := Lib.hid hUL
  clear hul hTT hTE hBK HEd hi hz0 hz1 hz2 e1 e2 e3 hE ht h1 h2 h3 hf ho hG hB hb hg hUL
  go_enter Tryd.func16, Tryd.ntmps16
  go_wp2_with fail
  refine abs_run (fun W => Below w.heap.size w W ∧ Blk (w.heap.size + 1) (.cells zeroTn 35 (0, 0)) W) ⟨by (repeat (first | exact Below.refl _ _ | assumption | (refine Below.drew ?_) | (refine below_drewN ?_ _) | (refine Below.alloc ?_ (by first | (simp; done) | (simp; omega) | omega) _) | (refine Below.setCell ?_ (by first | (simp; done) | (simp; omega) | omega) _) | (refine Below.trans ?_ (Below.mono (by assumption) (by first | (simp; done) | (simp; omega) | omega))))), Blk.at _ _ _ (by simp)⟩ ?_
  rintro w1 ⟨b1, x1⟩
  have B1 := Lib.hid b1
  have X1 := Lib.hid x1
  have hx1 := x1.lt
  clear b1 x1
  refine (HBg.out w1 B1.out).mono ?_
  rintro e w2 ⟨g, vs, rfl, m2, b2⟩
  have M2 := Lib.hid m2
  have B2 := Lib.hid (up B1.out b2)
  have X2 := Lib.hid (X1.out.go b2)
  have hz12 := b2.size
  clear m2 b2 HBg X1
  go_wp2_with fail
  refine (hel.out _ _ _ _ M2.out (Hg.out.go B2.out) (Hnm.out _ _ _ _ M2.out (by omega) B2.out)).mono ?_
  rintro e w3 ⟨ba, bc, rfl, v2, m3, t3, h3, r3⟩
  have M3 := Lib.hid m3
  have T3 := Lib.hid (t3.mono fun z _ hz => (M2.out.mine z hz).1)
  have R3 := Lib.hid r3
  have hgb := m3.gb
  have hgl := m3.lt
  have X3 := Lib.hid (X2.out.touch T3.out (by omega))
  have B3 := Lib.hid (B2.out.trans (T3.out.toBelow (B := w.heap.size) (by omega) (fun z hz => by omega)))
  have hzB := B3.out.size
  clear m3 t3 h3 r3 hel M2
  go_wp2_with fail
  refine (HNP.out g w3).mono ?_
  rintro e w3' ⟨rfl, rfl⟩
  obtain ⟨-, -, -, -, -, -, p6, -, -, -⟩ := blk10_cells M3.out.box
  obtain ⟨u1, hv1⟩ : ∃ u1, Hid (u1 = v2 1) := ⟨_, rfl⟩
  have pf := M3.out.box.frozen 6
  rw [← hv1.out] at p6
  have hown1 : OwnO (WX w1.heap.size g v2) w1.heap.size u1 n.undo w3 := by rw [hv1.out, ← Hul.out]; exact M3.out.rows 1 (by omega)
  have HO1 := Lib.hid hown1
  have Hy : Hid (Rep.rd (fun z => z < (w3.alloc (.cells #[.slice ba BK.length bc] 42)).heap.size ∧ ¬ WX w1.heap.size g v2 z ∧ u1.ownBlock ≠ some z) (w3.alloc (.cells #[.slice ba BK.length bc] 42)) BK [.slice ba BK.length bc]) := by
    refine ⟨ba, _, bc, rfl, R3.out.mono fun z hz => ⟨⟨by rw [alloc_sz]; omega, fun hx => ?_, fun e => ?_⟩, ((Below.refl w3.heap.size w3).alloc (Nat.le_refl _) _).block z hz.1⟩⟩
    · rcases hx with hx | hx
      · omega
      · exact hz.2.2 hx
    · rw [hv1.out] at e
      exact hz.2.2 (.inr ⟨1, by omega, e⟩)
  have hbz : w1.heap.size ≤ (w3.alloc (.cells #[.slice ba BK.length bc] 42)).heap.size := by rw [alloc_sz]; omega
  have Hbz := Lib.hid hbz
  clear hown1 hbz
  go_wp2_with (at_builtin; refine wpList_append_oneO rfl _ _ _ (by rfl) w1.heap.size 42 i0 _ 24 Tryd.underlying28 Hi.out Hz0.out Hz1.out Hz2.out rfl u1 n.undo (by rfl) (HO1.out.go ((Below.refl _ w3).alloc (Nat.le_refl _) _)) w3.heap.size 1 _ [.slice ba BK.length bc] BK (by rfl) (Blk.new w3 _) Hy.out (by rw [HUL.out]; unfold maxLen; omega) (by rw [HUL.out]; omega) Hbz.out ?_)
  intro g2 o2 cap w5 hown hgrow hat hlt5
  have M4 := Lib.hid (M3.out.go ((Below.refl _ w3).alloc (Nat.le_refl _) (.cells #[.slice ba BK.length bc] 42)))
  have hsu := WkG.setUndo (v' := .slice (some ⟨g2, o2, none⟩) (n.undo.length + 1) cap) M4.out (by rw [← hv1.out]; exact hgrow) (fun k hk => by
    have e : g2 = k := by simpa [Value.ownBlock] using hk
    subst e
    rw [← hv1.out, alloc_sz]; exact hat) hown
  obtain ⟨k1, k2, k3⟩ := hsu
  have K1 := Lib.hid k1
  have K2 : Hid (Touch (fun z => w1.heap.size ≤ z) w2 (w5.setCell ⟨g, 6, none⟩ (.slice (some ⟨g2, o2, none⟩) (n.undo.length + 1) cap))) :=
    (T3.out.alloc _).trans (k2.mono fun z _ hz => (M4.out.mine z hz).1)
  have HOw := Lib.hid (hown.go (Below.refl _ _))
  rw [HUL.out] at K1 K2 HOw
  have hM5 := (M4.out.box.grown hgrow (fun e => M4.out.ne 1 (by omega) g (by rw [← hv1.out]; exact e.symm) rfl))
  obtain ⟨-, -, -, -, -, -, p6', -, -, -⟩ := blk10_cells hM5
  have pf5 := hM5.frozen 6
  have hgl5 := hM5.lt
  rw [HUL.out]
  clear hown hgrow hat hM5 k1 k2 k3 p6 Hy HO1 pf hv1 T3 R3
  go_upto_region 9 with fail
  generalize hW6 : w5.setCell ⟨g, 6, none⟩ (.slice (some ⟨g2, o2, none⟩) (ul + 1) cap) = w6 at *
  obtain ⟨-, -, -, -, -, -, p6, -, -, -⟩ := blk10_cells K1.out.box
  have pf6 := K1.out.box.frozen 6
  have hgl6 := K1.out.lt
  simp only [if_true] at p6
  clear p6' pf5 hgl5 hlt5
  by_cases h12 : 12 < ul + 1
  · have h12' : (12 : Int) < (ul : Int) + 1 := by omega
    have hcap : ul + 1 ≤ cap ∧ cap ≤ maxLen := by
      rcases HOw.out.row with ⟨a', hv, -⟩ | ⟨r, q, cp, hv, -, -, z3, z4, -⟩
      · cases hv
      · injection hv with e1 e2 e3
        subst e3
        rw [List.length_append, HUL.out] at z3
        exact ⟨z3, z4⟩
    have hcap1 : (ul : Int) + 1 ≤ (cap : Int) := by omega
    have hcap2 : (cap : Int) ≤ 9223372036854775807 := by have := hcap.2; unfold maxLen at this; omega
    have hd := HOw.out.drop_in (k := 1) (by omega) (by omega)
    have e6 : o2 + 1 * Rep.n Op = o2 + 1 := by show o2 + 1 * 1 = o2 + 1; omega
    rw [e6, Nat.add_sub_cancel] at hd
    have hK1 := K1.out
    have hd6 : OwnO (WX w1.heap.size g fun q => if q = 1 then .slice (some ⟨g2, o2, none⟩) (ul + 1) cap else v2 q) w1.heap.size (.slice (some ⟨g2, o2 + 1, none⟩) ul (cap - 1)) ((n.undo ++ [BK]).drop 1) w6 := by
      have hr := hK1.rows 1 (by omega)
      have hr' : OwnO (WX w1.heap.size g fun q => if q = 1 then .slice (some ⟨g2, o2, none⟩) (ul + 1) cap else v2 q) w1.heap.size (.slice (some ⟨g2, o2, none⟩) (ul + 1) cap) (n.undo ++ [BK]) w6 := hr
      have := hr'.drop_in (k := 1) (by omega) (by omega)
      rwa [e6, Nat.add_sub_cancel] at this
    obtain ⟨k1, k2, k3⟩ := WkG.setUndo (v' := .slice (some ⟨g2, o2 + 1, none⟩) ul (cap - 1)) hK1 (World.grownBy.refl _ _) (fun k hk => by
      have e : g2 = k := by simpa [Value.ownBlock] using hk
      subst e
      exact .inl rfl) hd6
    have eT : (TE.setUndo (n.undo ++ [BK])).setUndo ((n.undo ++ [BK]).drop 1) = TT := by
      rw [HTT.out, hpush.out, if_pos h12]
      rfl
    rw [eT] at k1
    have M9 := Lib.hid k1
    have T9 := Lib.hid (K2.out.trans (k2.mono fun z _ hz => (hK1.mine z hz).1))
    clear k1 k2 k3 hK1 hd hd6 HOw hW6 K1 K2
    go_upto_region 11 with fail
    have X9 := X2.out.touch T9.out (by omega)
    obtain ⟨a0, c0, a1, c1, a2, c2, a3, c3, a4, c4, e1, e2, e3, e4⟩ := turn_out M9.out X9 (by omega) (B := w.heap.size) (by omega) (B2.out.trans (T9.out.toBelow (B := w.heap.size) (by omega) (fun z hz => by omega)))
    obtain ⟨p0, p1, p2, p3, p4, p5, p6, p7, p8, p9⟩ := blk10_cells X9
    have pf := X9.frozen
    have hz := X9.lt
    obtain ⟨q0, q1, q2, q3, q4, q5, q6, q7, q8, q9⟩ := blk10_cells e1
    have G := Lib.hid (And.intro e2 (And.intro e3 e4))
    clear e1 e2 e3 e4 X9
    go_wp2_with fail
    refine abs_ret (fun W => Blk (w.heap.size + 1) (.cells #[.int .i64 TT.node.me, .int .i64 TT.node.epoch, .int .i64 TT.node.up, .bool TT.node.ready, .string TT.node.text, .slice a0 TT.node.sides.length c0, .slice a1 TT.node.undo.length c1, .slice a2 TT.node.marks.length c2, .slice a3 TT.posts.length c3, .slice a4 TT.recs.length c4] 35 (0, 0)) W ∧ TnVal (Fresh w.heap.size W) TT (.agg #[.int .i64 TT.node.me, .int .i64 TT.node.epoch, .int .i64 TT.node.up, .bool TT.node.ready, .string TT.node.text, .slice a0 TT.node.sides.length c0, .slice a1 TT.node.undo.length c1, .slice a2 TT.node.marks.length c2, .slice a3 TT.posts.length c3, .slice a4 TT.recs.length c4]) W ∧ Below w.heap.size w W) G.out ?_
    rintro W ⟨y1, y2, y3⟩
    obtain ⟨k0, k1, k2, k3, k4, k5, k6, k7, k8, k9⟩ := blk10_cells y1
    exact bodyPost_ret (v := .tuple #[.agg #[.int .i64 TT.node.me, .int .i64 TT.node.epoch, .int .i64 TT.node.up, .bool TT.node.ready, .string TT.node.text, .slice a0 TT.node.sides.length c0, .slice a1 TT.node.undo.length c1, .slice a2 TT.node.marks.length c2, .slice a3 TT.posts.length c3, .slice a4 TT.recs.length c4], .int .i64 0]) (by simp [results, Tryd.results16, go_sem, k0, k1, k2, k3, k4, k5, k6, k7, k8, k9]) rfl ⟨_, rfl, y2, y3⟩
  · have h12' : ¬ ((12 : Int) < (ul : Int) + 1) := by omega
    have eT : TE.setUndo (n.undo ++ [BK]) = TT := by rw [HTT.out, hpush.out, if_neg h12]
    rw [eT] at K1
    have M9 := K1
    have T9 := K2
    clear HOw hW6 K1
    go_upto_region 11 with fail
    clear p6 pf6
    have X9 := X2.out.touch T9.out (by omega)
    obtain ⟨a0, c0, a1, c1, a2, c2, a3, c3, a4, c4, e1, e2, e3, e4⟩ := turn_out M9.out X9 (by omega) (B := w.heap.size) (by omega) (B2.out.trans (T9.out.toBelow (B := w.heap.size) (by omega) (fun z hz => by omega)))
    obtain ⟨p0, p1, p2, p3, p4, p5, p6, p7, p8, p9⟩ := blk10_cells X9
    have pf := X9.frozen
    have hz := X9.lt
    obtain ⟨q0, q1, q2, q3, q4, q5, q6, q7, q8, q9⟩ := blk10_cells e1
    have G := Lib.hid (And.intro e2 (And.intro e3 e4))
    clear e1 e2 e3 e4 X9
    go_wp2_with fail
    refine abs_ret (fun W => Blk (w.heap.size + 1) (.cells #[.int .i64 TT.node.me, .int .i64 TT.node.epoch, .int .i64 TT.node.up, .bool TT.node.ready, .string TT.node.text, .slice a0 TT.node.sides.length c0, .slice a1 TT.node.undo.length c1, .slice a2 TT.node.marks.length c2, .slice a3 TT.posts.length c3, .slice a4 TT.recs.length c4] 35 (0, 0)) W ∧ TnVal (Fresh w.heap.size W) TT (.agg #[.int .i64 TT.node.me, .int .i64 TT.node.epoch, .int .i64 TT.node.up, .bool TT.node.ready, .string TT.node.text, .slice a0 TT.node.sides.length c0, .slice a1 TT.node.undo.length c1, .slice a2 TT.node.marks.length c2, .slice a3 TT.posts.length c3, .slice a4 TT.recs.length c4]) W ∧ Below w.heap.size w W) G.out ?_
    rintro W ⟨y1, y2, y3⟩
    obtain ⟨k0, k1, k2, k3, k4, k5, k6, k7, k8, k9⟩ := blk10_cells y1
    exact bodyPost_ret (v := .tuple #[.agg #[.int .i64 TT.node.me, .int .i64 TT.node.epoch, .int .i64 TT.node.up, .bool TT.node.ready, .string TT.node.text, .slice a0 TT.node.sides.length c0, .slice a1 TT.node.undo.length c1, .slice a2 TT.node.marks.length c2, .slice a3 TT.posts.length c3, .slice a4 TT.recs.length c4], .int .i64 0]) (by simp [results, Tryd.results16, go_sem, k0, k1, k2, k3, k4, k5, k6, k7, k8, k9]) rfl ⟨_, rfl, y2, y3⟩
theorem ndEdit_any (t : List Int) (ta : Option Addr) (tn tc : Nat) (n : Nd) (a : Option Addr) (c : Nat) (ua : Option Addr) (uc : Nat) (ma : Option Addr) (mc : Nat) (o : Op) (oa : Option Addr) (oc : Nat) (b : Int) (w : World) (hg : Good w) (ht : RdS (· < w.heap.size) w t ta tn tc)
    (h1 : RdS (· < w.heap.size) w n.sides a n.sides.length c) (h2 : RdS (· < w.heap.size) w n.undo ua n.undo.length uc) (h3 : RdS (· < w.heap.size) w n.marks ma n.marks.length mc) (hf : n.fits) (ho : RdS (· < w.heap.size) w o oa o.length oc) (hG : NdGood t n) (hB : NdB b n) (hb : b < 1000000) :
    Calls Tryd.prog 16 #[.slice ta tn tc, .agg #[.int .i64 n.me, .int .i64 n.epoch, .int .i64 n.up, .bool n.ready, .string n.text, .slice a n.sides.length c, .slice ua n.undo.length uc, .slice ma n.marks.length mc], .slice oa o.length oc] w (TurnE (editE n o) (editT n o) w) := by
  by_cases hE : editE n o = 0
  · exact (edit_ok t ta tn tc n a c ua uc ma mc o oa oc b w hg ht h1 h2 h3 hf ho hG hB hb hE).mono fun e w' h => by
      unfold TurnE; rw [if_pos hE]; exact h
  · exact edit_bad t ta tn tc n a c ua uc ma mc o oa oc b w hg ht h1 h2 h3 hf ho hG hB hb hE
end Go.Proofs.YtkbfhgcjimfgkaaDoor
