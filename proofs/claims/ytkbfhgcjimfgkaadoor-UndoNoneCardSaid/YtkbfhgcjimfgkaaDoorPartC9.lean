/- The walk of UndoNone. -/
import Derived.Test.YtkbfhgcjimfgkaaDoorPartC4
import Derived.Test.YtkbfhgcjimfgkaaDoorPartC5
import Derived.Test.YtkbfhgcjimfgkaaDoorPartC0
import Derived.Test.YtkbfhgcjimfgkaaDoorPartA3
import Derived.Test.YtkbfhgcjimfgkaaDoorPartC3
set_option linter.unusedVariables false
set_option linter.unusedSimpArgs false
set_option linter.unusedSimpArgs false
namespace Go.Proofs.YtkbfhgcjimfgkaaDoor
open Go.RowKit
def xO (s : Str) : Op := hereO (rns s).length 0 [120]
def xS (s : Str) : Str := applyS s (xO s)
theorem xO_laws {s : Str} (hs : checkText s = 0) (hb : rc s ≤ 100) : check (xO s) = 0 ∧ sumF (xO s) = rc s ∧ sumT (xO s) = rc s + 1 ∧ applyE s (xO s) = 0 ∧ checkText (xS s) = 0 ∧ rc (xS s) = rc s + 1 := by
  have hr := rc_rns s
  obtain ⟨h1, h2, h3, -⟩ := here_laws (rns s).length 0 [120] (Nat.zero_le _) (by omega) (by simp) (fun r hr => by simp at hr; subst hr; decide) (by simp)
  have h3' : sumT (xO s) = rc s + 1 := by show sumT (hereO _ 0 [120]) = _; rw [h3]; simp; omega
  have h2' : sumF (xO s) = rc s := by show sumF (hereO _ 0 [120]) = _; rw [h2]; omega
  obtain ⟨a1, -, -, a4, a5, -⟩ := apply_good hs h1 h2'
  exact ⟨h1, h2', h3', a1, a5, by show rc (applyS s (xO s)) = _; rw [show rc (applyS s (xO s)) = sumT (hereO (rns s).length 0 [120]) from a4]; exact h3'⟩
/-- the texts, one after the other; what would undo them -/
def ts (c : Str) : Nat → Str
  | 0 => c
  | i + 1 => xS (ts c i)
def us (c : Str) : Nat → List Op
  | 0 => []
  | i + 1 => us c i ++ [invO (ts c i) (xO (ts c i))]
def ndT (T : List Int) (c : Str) (i : Nat) : Nd := ⟨0, 4096, 0, true, ts c i, (nbs T 0).map newSd, us c i, []⟩
theorem us_len (c : Str) : ∀ i, (us c i).length = i
  | 0 => rfl
  | i + 1 => by unfold us; rw [List.length_append, us_len c i]; rfl
theorem ts_ok {c : Str} (hc : checkText c = 0) (h20 : rc c ≤ 20) : ∀ i, i ≤ 20 → checkText (ts c i) = 0 ∧ rc (ts c i) = rc c + i
  | 0, _ => ⟨hc, by show rc c = rc c + ((0 : Nat) : Int); omega⟩
  | i + 1, h => by
    obtain ⟨h1, h2⟩ := ts_ok hc h20 i (by omega)
    obtain ⟨-, -, -, -, k5, k6⟩ := xO_laws h1 (by omega)
    exact ⟨k5, by show rc (xS (ts c i)) = _; rw [k6, h2]; push_cast; omega⟩
theorem new_idle (l : List Int) : (l.map newSd).any isFull = false := by
  rw [List.any_eq_false]
  intro s hs
  obtain ⟨p, -, rfl⟩ := List.mem_map.1 hs
  simp [isFull, newSd]
theorem same_sides {l : List Int} {ss : List Sd} {o : Op} (hl : ss.length = (l.map newSd).length) (h : ∀ i (h : i < (l.map newSd).length) (h2 : i < ss.length), ss[i] = if (l.map newSd)[i].joined = false then (l.map newSd)[i] else sdTold (l.map newSd)[i] o) : ss = l.map newSd := by
  refine List.ext_getElem hl fun i h1 h2 => ?_
  rw [h i h2 h1, if_pos]
  rw [List.getElem_map]; rfl
/-- one edit -/
theorem ndT_edit {T : List Int} {c : Str} (hc : checkText c = 0) (h20 : rc c ≤ 20) (i : Nat) (hi : i < 12) : editE (ndT T c i) (xO (ts c i)) = 0 ∧ (editT (ndT T c i) (xO (ts c i))).node = ndT T c (i + 1) := by
  obtain ⟨h1, h2⟩ := ts_ok hc h20 i (by omega)
  obtain ⟨k1, k2, k3, k4, k5, k6⟩ := xO_laws h1 (by omega)
  refine ⟨editE_ok rfl h1 k1 k2 (by omega) (new_idle _), ?_⟩
  obtain ⟨ss, e1, e2, e3⟩ := edited_node (ndT T c i) (ndT T c i).undo (xO (ts c i))
  have hss : ss = (nbs T 0).map newSd := same_sides e2 e3
  have e4 : (editT (ndT T c i) (xO (ts c i))).node = { ((⟨ndT T c i, [], []⟩ : Tn).edited (xO (ts c i))).node with undo := pushed ((⟨ndT T c i, [], []⟩ : Tn).edited (xO (ts c i))).node.undo (invO (ts c i) (xO (ts c i))) } := rfl
  have e5 : ((⟨ndT T c i, [], []⟩ : Tn).edited (xO (ts c i))).node = _ := e1
  rw [e4, e5, hss]
  show (⟨0, 4096, 0, true, xS (ts c i), (nbs T 0).map newSd, pushed (us c i) (invO (ts c i) (xO (ts c i))), []⟩ : Nd) = ⟨0, 4096, 0, true, xS (ts c i), (nbs T 0).map newSd, us c i ++ [invO (ts c i) (xO (ts c i))], []⟩
  have e6 : pushed (us c i) (invO (ts c i) (xO (ts c i))) = us c i ++ [invO (ts c i) (xO (ts c i))] := by
    unfold pushed
    rw [if_neg]
    rw [List.length_append, us_len]; simp; omega
  rw [e6]
/-- .. undone -/
theorem ndT_undo {T : List Int} {c : Str} (hc : checkText c = 0) (h20 : rc c ≤ 20) (i : Nat) (hi : i < 12) : undoE (ndT T c (i + 1)) = 0 ∧ (undoT (ndT T c (i + 1))).node = ndT T c i := by
  obtain ⟨h1, h2⟩ := ts_ok hc h20 i (by omega)
  obtain ⟨k1, k2, k3, k4, k5, k6⟩ := xO_laws h1 (by omega)
  obtain ⟨i1, i2, i3, -⟩ := inv_laws h1 k1 k2
  obtain ⟨-, b2, -⟩ := inv_back h1 k1 k2
  have hlast : (ndT T c (i + 1)).undo.getLastD [] = invO (ts c i) (xO (ts c i)) := by
    show (us c i ++ [invO (ts c i) (xO (ts c i))]).getLastD [] = _
    simp
  have hdrop : (ndT T c (i + 1)).undo.dropLast = us c i := by
    show (us c i ++ [invO (ts c i) (xO (ts c i))]).dropLast = _
    simp
  constructor
  · unfold undoE
    rw [if_neg (by simp [ndT]), if_neg (by show us c i ++ [_] ≠ []; simp), hlast, if_neg]
    rw [full_short (by omega) (new_idle _)]
    simp
  · unfold undoT
    rw [hlast, hdrop]
    obtain ⟨ss, e1, e2, e3⟩ := edited_node (ndT T c (i + 1)) (us c i) (invO (ts c i) (xO (ts c i)))
    have hss : ss = (nbs T 0).map newSd := same_sides e2 e3
    rw [e1, hss]
    show (⟨0, 4096, 0, true, applyS (xS (ts c i)) (invO (ts c i) (xO (ts c i))), (nbs T 0).map newSd, us c i, []⟩ : Nd) = ⟨0, 4096, 0, true, ts c i, (nbs T 0).map newSd, us c i, []⟩
    have e6 : applyS (xS (ts c i)) (invO (ts c i) (xO (ts c i))) = ts c i := b2
    rw [e6]
theorem ndT_none (T : List Int) (c : Str) : undoE (ndT T c 0) = 6 := rfl
theorem ndT_begin (T : List Int) (c : Str) : beginT T ((0 : Nat) : Int) 1 c = ⟨ndT T c 0, [], []⟩ := by
  unfold beginT
  rw [if_neg (by simp)]
  rfl
theorem ndT_good {T : List Int} {c : Str} (hT : checkTree T = 0) (hl : 0 < T.length) (hc : checkText c = 0) (h20 : rc c ≤ 20) : ∀ i : Nat, i ≤ 12 → NdGood T (ndT T c i) ∧ NdB ((i : Int) + 1) (ndT T c i)
  | 0, _ => by
    have h := (begin_plain (t := T) (k := 0) hl hT (b := 1) (by omega) (by omega) hc (fun h => by omega)).1
    rw [ndT_begin] at h
    refine ⟨h, fun s hs => ?_⟩
    obtain ⟨p, -, rfl⟩ := List.mem_map.1 hs
    exact ⟨by show (0 : Int) ≤ _; omega, by show (0 : Int) ≤ _; omega, by show (1 : Int) + (([] : List Fr).length : Int) ≤ _; simp, by show (0 : Int) ≤ _; omega⟩
  | i + 1, h => by
    obtain ⟨g1, g2⟩ := ndT_good hT hl hc h20 i (by omega)
    obtain ⟨e1, e2⟩ := ndT_edit (T := T) hc h20 i (by omega)
    have := edit_good g1 e1 g2 (by omega)
    rw [e2] at this
    exact ⟨this.1, by have := this.2; push_cast; exact this⟩
theorem ndT_beginE {T : List Int} {c : Str} (hT : checkTree T = 0) (hl : 0 < T.length) (hc : checkText c = 0) : beginE T ((0 : Nat) : Int) 1 c = 0 := by
  unfold beginE
  rw [if_neg (by simpa using hT), if_neg (by omega), if_neg (by decide), if_neg (by simpa using hc), if_neg (by rintro ⟨h, -⟩; omega)]
end Go.Proofs.YtkbfhgcjimfgkaaDoor
set_option linter.unusedSimpArgs false
namespace Go.Proofs.YtkbfhgcjimfgkaaDoor
open Go.RowKit
/-- a node in the box b; what it reaches is not the box -/
def NdBox (b : Nat) (n : Nd) (W : World) : Prop := ∃ a c ua uc ma mc, Blk b (.cells #[.int .i64 n.me, .int .i64 n.epoch, .int .i64 n.up, .bool n.ready, .string n.text, .slice a n.sides.length c, .slice ua n.undo.length uc, .slice ma n.marks.length mc] 31 (0, 0)) W ∧
  RdS (fun z => z < W.heap.size ∧ z ≠ b) W n.sides a n.sides.length c ∧ RdS (fun z => z < W.heap.size ∧ z ≠ b) W n.undo ua n.undo.length uc ∧ RdS (fun z => z < W.heap.size ∧ z ≠ b) W n.marks ma n.marks.length mc ∧ n.fits
theorem NdBox.go {b : Nat} {n : Nd} {W W' : World} (h : NdBox b n W) (hb : Below W.heap.size W W') : NdBox b n W' := by
  obtain ⟨a, c, ua, uc, ma, mc, hx, h1, h2, h3, hf⟩ := h
  have hA : ∀ z, (z < W.heap.size ∧ z ≠ b) → (z < W'.heap.size ∧ z ≠ b) ∧ W'.heap[z]? = W.heap[z]? := fun z hz => ⟨⟨Nat.lt_of_lt_of_le hz.1 hb.size, hz.2⟩, hb.block z hz.1⟩
  exact ⟨a, c, ua, uc, ma, mc, hx.go hb, h1.mono hA, h2.mono hA, h3.mono hA, hf⟩
/-- a node is stored into the box -/
theorem NdBox.put {b : Nat} {n m : Nd} {W : World} (h : NdBox b n W) {A : Nat → Prop} (hA : ∀ z, A z → z < W.heap.size ∧ z ≠ b) {a ua ma : Option Addr} {c uc mc : Nat} (h1 : RdS A W m.sides a m.sides.length c) (h2 : RdS A W m.undo ua m.undo.length uc) (h3 : RdS A W m.marks ma m.marks.length mc) (hf : m.fits) :
    NdBox b m (set8w W b (.int .i64 m.me) (.int .i64 m.epoch) (.int .i64 m.up) (.bool m.ready) (.string m.text) (.slice a m.sides.length c) (.slice ua m.undo.length uc) (.slice ma m.marks.length mc)) := by
  obtain ⟨a', c', ua', uc', ma', mc', hx, -⟩ := h
  have ht := touch8 W b (.int .i64 m.me) (.int .i64 m.epoch) (.int .i64 m.up) (.bool m.ready) (.string m.text) (.slice a m.sides.length c) (.slice ua m.undo.length uc) (.slice ma m.marks.length mc)
  have hm : ∀ z, A z → (z < (set8w W b (.int .i64 m.me) (.int .i64 m.epoch) (.int .i64 m.up) (.bool m.ready) (.string m.text) (.slice a m.sides.length c) (.slice ua m.undo.length uc) (.slice ma m.marks.length mc)).heap.size ∧ z ≠ b) ∧ (set8w W b (.int .i64 m.me) (.int .i64 m.epoch) (.int .i64 m.up) (.bool m.ready) (.string m.text) (.slice a m.sides.length c) (.slice ua m.undo.length uc) (.slice ma m.marks.length mc)).heap[z]? = W.heap[z]? := fun z hz => ⟨⟨Nat.lt_of_lt_of_le (hA z hz).1 ht.size, (hA z hz).2⟩, ht.block z (hA z hz).1 (hA z hz).2⟩
  exact ⟨a, c, ua, uc, ma, mc, blk_set8 hx _ _ _ _ _ _ _ _, h1.mono hm, h2.mono hm, h3.mono hm, hf⟩
theorem NdBox.lt {b : Nat} {n : Nd} {W : World} (h : NdBox b n W) : b < W.heap.size := by
  obtain ⟨_, _, _, _, _, _, hx, -⟩ := h
  exact hx.lt
end Go.Proofs.YtkbfhgcjimfgkaaDoor
set_option linter.unusedSimpArgs false
namespace Go.Proofs.YtkbfhgcjimfgkaaDoor
open Go.RowKit
set_option maxRecDepth 100000 in
set_option maxHeartbeats 8000000 in
theorem undoNone_walk (w : World) (hg : Good w) (la : Option Addr) (ln lc : Nat) (l : List Int) (hr : RdS (· < w.heap.size) w l la ln lc) (s : Str) (hs : s.size ≤ maxLen) (x : Int) (hx : I64 x) :
    Calls Tryd.prog 7 #[.slice la ln lc, .string s, .int .i64 x] w fun e w' => e = .returned (.bool true) ∧ Below w.heap.size w w' := by
  have HTr := Lib.hid (fun W (hW : Below w.heap.size w W) => tree_any (· < W.heap.size) la ln lc l W (fun _ h => h) (hr.go hW))
  obtain ⟨t1, t2⟩ := tree_len l
  have t4 := tree_ok l
  have h64 : ∀ x ∈ tree l, I64 x := tree_64 _
  generalize tree l = T at *
  have HLt := Lib.hid (fun W => letters_any s 20 W hs (by omega))
  rw [show ((20 : Nat) : Int) = 20 from rfl] at HLt
  obtain ⟨l1, l2, l3, l4⟩ := letters_ok s 20 (by omega)
  generalize letters s 20 = c at *
  have Hp := Lib.hid (fun W => picked_any x 9 W hx (by omega) (by omega))
  have r1 := pk_range x 9 (by omega)
  clear hx
  generalize pk x 9 = p at *
  obtain ⟨K', rfl⟩ := Int.eq_ofNat_of_zero_le r1.1
  obtain ⟨K, hK⟩ : ∃ K : Nat, K = 1 + K' := ⟨_, rfl⟩
  have hKi : 1 + (K' : Int) = (K : Int) := by omega
  have hK9 : K ≤ 9 := by omega
  have HBo := Lib.hid (fun W ra rc' (hW : Good W) (hR : RdS (· < W.heap.size) W T ra T.length rc') => begin_ok T ra T.length rc' 0 1 c W hW hR (by unfold I64; omega) (by unfold strMax; omega) (ndT_beginE t4 (by omega) l1))
  rw [ndT_begin] at HBo
  have HUn0 := Lib.hid (fun W ra rc' (hW : Good W) (hR : RdS (· < W.heap.size) W T ra T.length rc') (i : Nat) (hi : i ≤ 12) (a0 : Option Addr) (c0 : Nat) (a1 : Option Addr) (c1 : Nat) (a2 : Option Addr) (c2 : Nat) (q1 : RdS (· < W.heap.size) W (ndT T c i).sides a0 (ndT T c i).sides.length c0) (q2 : RdS (· < W.heap.size) W (ndT T c i).undo a1 (ndT T c i).undo.length c1) (q3 : RdS (· < W.heap.size) W (ndT T c i).marks a2 (ndT T c i).marks.length c2) (hf : (ndT T c i).fits) => ndUndo_any T ra T.length rc' (ndT T c i) a0 c0 a1 c1 a2 c2 ((i : Int) + 1) W hW hR q1 q2 q3 hf (ndT_good t4 (by omega) l1 (by omega) i hi).1 (ndT_good t4 (by omega) l1 (by omega) i hi).2 (by omega))
  have HEd0 := Lib.hid (fun W ra rc' oa oc (hW : Good W) (hR : RdS (· < W.heap.size) W T ra T.length rc') (i : Nat) (hi : i < 12) (a0 : Option Addr) (c0 : Nat) (a1 : Option Addr) (c1 : Nat) (a2 : Option Addr) (c2 : Nat) (q1 : RdS (· < W.heap.size) W (ndT T c i).sides a0 (ndT T c i).sides.length c0) (q2 : RdS (· < W.heap.size) W (ndT T c i).undo a1 (ndT T c i).undo.length c1) (q3 : RdS (· < W.heap.size) W (ndT T c i).marks a2 (ndT T c i).marks.length c2) (hf : (ndT T c i).fits) (q4 : RdS (· < W.heap.size) W (xO (ts c i)) oa (xO (ts c i)).length oc) => (ndEdit_any T ra T.length rc' (ndT T c i) a0 c0 a1 c1 a2 c2 (xO (ts c i)) oa oc ((i : Int) + 1) W hW hR q1 q2 q3 hf q4 (ndT_good t4 (by omega) l1 (by omega) i (by omega)).1 (ndT_good t4 (by omega) l1 (by omega) i (by omega)).2 (by omega)).mono fun e w' (h : TurnE (editE (ndT T c i) (xO (ts c i))) (editT (ndT T c i) (xO (ts c i))) W e w') => (by unfold TurnE at h; rw [if_pos (ndT_edit l1 (by omega) i hi).1] at h; exact h : TurnP (editT (ndT T c i) (xO (ts c i))) W e w'))
  have HTT0 := Lib.hid (fun i (hi : i < 12) => (ndT_edit (T := T) l1 (by omega) i hi).2)
  have HUU0 := Lib.hid (fun i (hi : i < 12) => ndT_undo (T := T) l1 (by omega) i hi)
  have Hts := Lib.hid (fun i (hi : i ≤ 20) => ts_ok l1 (by omega) i hi)
  have HOp0 := Lib.hid (fun i (hi : i ≤ 12) W => here_any (rns (ts c i)).length 0 [120] W (fun r hr => by simp at hr; subst hr; decide) (Nat.zero_le _) (by have h1 := (ts_ok l1 (by omega) i (by omega)).2; have h2 := rc_rns (ts c i); omega) (by simp))
  have hOp1 : ∀ i, i ≤ 12 → ∀ W, Calls Tryd.prog 15 #[.int .i64 (rc (ts c i)), .int .i64 0, .string { data := #[120] }] W fun e w' => ∃ a c', e = .returned (.slice a (xO (ts c i)).length c') ∧ RdS (· < w'.heap.size) w' (xO (ts c i)) a (xO (ts c i)).length c' ∧ Below W.heap.size W w' := fun i hi W => by
    have h := HOp0.out i hi W
    have e0 : ((rns (ts c i)).length : Int) = rc (ts c i) := (rc_rns _).symm
    rw [e0] at h
    refine Calls.mono h ?_
    rintro e w' ⟨a, c', e1, h1, h2⟩
    exact ⟨a, c', e1, h1.mono fun z hz => ⟨hz.2, rfl⟩, h2⟩
  clear HOp0
  have HOp1 := Lib.hid hOp1
  have Hg := Lib.hid hg
  have hgz := hg.size
  have H64 := Lib.hid h64
  have hTl : (T.length : Int) ≤ 7 := by omega
  have hTl0 : 0 < T.length := by omega
  have HT4 := Lib.hid t4
  have Hc := Lib.hid (And.intro l1 (And.intro l2 (And.intro l3 l4)))
  have HNT0 := Lib.hid (ndT_none T c)
  have HKK := Lib.hid hK
  clear hr hg hs l1 l2 l3 l4 r1 h64 t4 t1 t2 hK hOp1
  go_enter Tryd.func7, Tryd.ntmps7
  go_wp2_with fail
  refine (HTr.out _ (Below.refl _ _)).mono ?_
  rintro e w1 ⟨v, rfl, ho, b1⟩
  have HO := ints_own ho H64.out
  obtain ⟨ra, rc', rfl, RT⟩ := HO.rdI
  have HRT := Lib.hid RT
  have B1 := Lib.hid b1
  clear ho b1 HTr HO RT
  go_wp2_with fail
  refine (HLt.out _).mono ?_
  rintro e w2 ⟨rfl, b2⟩
  have B2 := Lib.hid (up B1.out b2)
  have HR2 := Lib.hid (HRT.out.go b2)
  clear b2 B1 HRT
  go_wp2_with fail
  refine (HBo.out w2 ra rc' (Hg.out.go B2.out) HR2.out).mono ?_
  rintro e w3 ⟨v, rfl, hv, b3⟩
  obtain ⟨a0, c0, a1, c1, a2, c2, a3, c3, a4, c4, rfl, hf, r0, r1, r2, r3, r5⟩ := hv.open
  have hlt : ∀ z, Fresh w2.heap.size w3 z → z < w3.heap.size ∧ w3.heap[z]? = w3.heap[z]? := fun z hz => ⟨hz.2, rfl⟩
  have HN3 := Lib.hid (And.intro (r0.mono hlt) (And.intro (r1.mono hlt) (And.intro (r2.mono hlt) hf)))
  have B3 := Lib.hid (up B2.out b3)
  have HR3 := Lib.hid (HR2.out.go b3)
  clear b3 hv r0 r1 r2 r3 r5 hf hlt HBo B2 HR2
  go_upto_region 3 with fail
  refine abs_w (fun W => Below w3.heap.size w3 W ∧ Blk w3.heap.size (.cells #[.int .i64 (ndT T c 0).me, .int .i64 (ndT T c 0).epoch, .int .i64 (ndT T c 0).up, .bool (ndT T c 0).ready, .string (ndT T c 0).text, .slice a0 (ndT T c 0).sides.length c0, .slice a1 (ndT T c 0).undo.length c1, .slice a2 (ndT T c 0).marks.length c2, .slice a3 0 c3, .slice a4 0 c4] 35 (0, 0)) W) ⟨(Below.refl _ _).alloc (Nat.le_refl _) _, Blk.new w3 _⟩ ?_
  rintro w4 ⟨b4, x4⟩
  have B4 := Lib.hid (up B3.out b4)
  have X4 := Lib.hid x4
  have HN4 := Lib.hid (And.intro (HN3.out.1.go b4) (And.intro (HN3.out.2.1.go b4) (And.intro (HN3.out.2.2.1.go b4) HN3.out.2.2.2)))
  have HR4 := Lib.hid (HR3.out.go b4)
  obtain ⟨g8, hg8⟩ : ∃ g8, g8 = w3.heap.size := ⟨_, rfl⟩
  rw [← hg8] at x4 X4 ⊢
  obtain ⟨p0, p1, p2, p3, p4, p5, p6, p7, p8, p9⟩ := blk10_cells x4
  have hl8 := x4.lt
  clear b4 x4 HN3 HR3 B3 hg8
  go_wp2_with fail
  refine (HUn0.out w4 ra rc' (Hg.out.go B4.out) HR4.out 0 (by omega) a0 c0 a1 c1 a2 c2 HN4.out.1 HN4.out.2.1 HN4.out.2.2.1 HN4.out.2.2.2).mono ?_
  rintro e w5 h5
  unfold TurnE at h5
  rw [HNT0.out, if_neg (by decide)] at h5
  obtain ⟨rfl, b5⟩ := h5
  have B5 := Lib.hid (up B4.out b5)
  have X5 := Lib.hid (X4.out.go b5)
  have HN5 := Lib.hid (And.intro (HN4.out.1.go b5) (And.intro (HN4.out.2.1.go b5) (And.intro (HN4.out.2.2.1.go b5) HN4.out.2.2.2)))
  have HR5 := Lib.hid (HR4.out.go b5)
  clear b5 HN4 HR4 B4 p0 p1 p2 p3 p4 p5 p6 p7 p8 p9 hl8 X4
  go_upto_region 4 with fail
  refine abs_w (fun W => Below w5.heap.size w5 W) ((Below.refl _ _).alloc (Nat.le_refl _) _) ?_
  intro w6 b6
  have B6 := Lib.hid (up B5.out b6)
  have X6 := Lib.hid (X5.out.go b6)
  have HN6 := Lib.hid (And.intro (HN5.out.1.go b6) (And.intro (HN5.out.2.1.go b6) (And.intro (HN5.out.2.2.1.go b6) HN5.out.2.2.2)))
  have HR6 := Lib.hid (HR5.out.go b6)
  obtain ⟨p0, p1, p2, p3, p4, p5, p6, p7, p8, p9⟩ := blk10_cells X6.out
  have hl8 := X6.out.lt
  clear b6 HN5 HR5 B5 X5
  go_upto_region 5 with fail
  obtain ⟨g12, hg12⟩ : ∃ g12, g12 = w6.heap.size := ⟨_, rfl⟩
  refine abs_w (fun W => Below w6.heap.size w6 W ∧ Blk w6.heap.size (.cells #[.int .i64 (ndT T c 0).me, .int .i64 (ndT T c 0).epoch, .int .i64 (ndT T c 0).up, .bool (ndT T c 0).ready, .string (ndT T c 0).text, .slice a0 (ndT T c 0).sides.length c0, .slice a1 (ndT T c 0).undo.length c1, .slice a2 (ndT T c 0).marks.length c2] 31 (0, 0)) W) ⟨(Below.refl _ _).alloc (Nat.le_refl _) _, Blk.new w6 _⟩ ?_
  rintro w7 ⟨b7, x7⟩
  have hne : ∀ z, z < w6.heap.size → (z < w7.heap.size ∧ z ≠ g12) ∧ w7.heap[z]? = w6.heap[z]? := fun z hz => ⟨⟨Nat.lt_of_lt_of_le hz b7.size, by omega⟩, b7.block z hz⟩
  rw [← hg12] at x7 ⊢
  have XN7 : Hid (NdBox g12 (ndT T c 0) w7) := ⟨a0, c0, a1, c1, a2, c2, x7, HN6.out.1.mono hne, HN6.out.2.1.mono hne, HN6.out.2.2.1.mono hne, HN6.out.2.2.2⟩
  have B7 := Lib.hid (up B6.out b7)
  have HR7 := Lib.hid (HR6.out.mono (fun z hz => hne z hz))
  have hgw : w.heap.size ≤ g12 := by have := B6.out.size; omega
  clear b7 x7 hne HN6 HR6 B6 hg12 X6 p0 p1 p2 p3 p4 p5 p6 p7 p8 p9 hl8
  go_wp2_with fail
  refine (Hp.out _).mono ?_
  rintro e w8 ⟨rfl, rfl⟩
  go_wp2_with fail
  go_loopw [14] (fun vi wr => ∃ i : Nat, i ≤ K ∧ vi = .int .i64 (i : Int) ∧ NdBox g12 (ndT T c i) wr ∧ Touch (fun z => z = g12) w7 wr) (fun vi _ => K - (intOf vi).toNat)
  case atStart => exact ⟨0, by omega, rfl, XN7.out, Touch.refl _ _⟩
  case round =>
    obtain ⟨i, hi, rfl, hx, ht⟩ := hrel
    have XN := Lib.hid hx
    have TR := Lib.hid ht
    by_cases hlt : i < K
    · have hlt' : (i : Int) < (K : Int) := by omega
      obtain ⟨d0, f0, d1, f1, d2, f2, hxb, hs0, hs1, hs2, hfit⟩ := hx
      have hA : ∀ z, (z < wr.heap.size ∧ z ≠ g12) → z < wr.heap.size ∧ wr.heap[z]? = wr.heap[z]? := fun z hz => ⟨hz.1, rfl⟩
      have HRr : Hid (RdS (· < wr.heap.size) wr T ra T.length rc') := HR7.out.mono fun z hz => ⟨Nat.lt_of_lt_of_le hz.1 ht.size, ht.block z hz.1 hz.2⟩
      have HGr : Hid (Good wr) := (Hg.out.go B7.out).keep ht.size fun b hb => ht.block b (by have := (Hg.out.go B7.out).size; omega) (by omega)
      obtain ⟨SN, hSN⟩ : ∃ SN, SN = ndT T c i := ⟨_, rfl⟩
      have hst : SN.text = ts c i := by rw [hSN]; rfl
      obtain ⟨O, hO⟩ : ∃ O, O = xO (ts c i) := ⟨_, rfl⟩
      have HOp := Lib.hid (HOp1.out i (by omega))
      have HRu := Lib.hid (fun W => runes_any (ts c i) W (by have h1 := Hts.out i (by omega); have h2 := text_small h1.1; omega))
      rw [← hO, ← hst] at HOp
      rw [← hst] at HRu
      obtain ⟨TT, hTT⟩ : ∃ TT, TT = editT SN O := ⟨_, rfl⟩
      have HTT : Hid (TT.node = ndT T c (i + 1)) := by rw [hTT, hSN, hO]; exact HTT0.out i (by omega)
      have HEd : Hid (∀ W oa oc, Below wr.heap.size wr W → RdS (· < W.heap.size) W O oa O.length oc → Calls Tryd.prog 16 #[.slice ra T.length rc', .agg #[.int .i64 SN.me, .int .i64 SN.epoch, .int .i64 SN.up, .bool SN.ready, .string SN.text, .slice d0 SN.sides.length f0, .slice d1 SN.undo.length f1, .slice d2 SN.marks.length f2], .slice oa O.length oc] W (TurnP TT W)) := by
        unfold Hid
        intro W oa oc hW hq
        rw [hTT]
        have h := HEd0.out W ra rc' oa oc (HGr.out.go hW) (HRr.out.go hW) i (by omega) d0 f0 d1 f1 d2 f2 ((hs0.mono hA).go hW) ((hs1.mono hA).go hW) ((hs2.mono hA).go hW) hfit
        rw [← hSN, ← hO] at h
        exact h hq
      rw [← hSN] at hxb XN
      have XC := Lib.hid hxb
      clear hxb hs0 hs1 hs2 hfit ht hA hSN hst hO hTT HEd0 HOp1 HTT0
      go_upto_region 9 with fail
      obtain ⟨Vp, HV⟩ : ∃ Vp : Nat → Value → World → Prop, Hid (Vp = fun i v W => match i with
          | 0 => v = .slice ra T.length rc'
          | 1 => v = .agg #[.int .i64 SN.me, .int .i64 SN.epoch, .int .i64 SN.up, .bool SN.ready, .string SN.text, .slice d0 SN.sides.length f0, .slice d1 SN.undo.length f1, .slice d2 SN.marks.length f2]
          | 2 => v = .pointer (some ⟨g12, 4, none⟩)
          | 3 => v = .string SN.text
          | 4 => v = .int .i64 (rc SN.text)
          | 5 => ∃ a c, v = .slice a O.length c ∧ RdS (· < W.heap.size) W O a O.length c
          | 6 => ∃ y, v = y
          | 7 => ∃ y, v = y
          | 8 => ∃ y, v = y
          | 9 => v = .int .i64 0
          | 10 => ∃ y, v = y
          | 11 => v = undef
          | _ => v = .int .i64 0) := ⟨_, rfl⟩
      obtain ⟨Ip, HIp⟩ : ∃ Ip : (Nat → Bool) → (Nat → Value) → World → Prop, Hid (Ip = fun L x W => (Below wr.heap.size wr W ∧ (L 6 = true → L 11 = false → ∃ u, x 6 = .tuple #[u, .int .i64 0] ∧ TnVal (fun z => wr.heap.size ≤ z ∧ z < W.heap.size ∧ (L 10 = true → x 10 ≠ .pointer (some ⟨z, 0, none⟩))) TT u W) ∧ (L 10 = true → L 11 = false → ∃ b, x 10 = .pointer (some ⟨b, 0, none⟩) ∧ wr.heap.size ≤ b ∧ Blk b (.cells zeroTn 35 (0, 0)) W) ∧ (L 7 = true → x 7 = x 6) ∧ (L 8 = true → ∀ u, x 6 = .tuple #[u, .int .i64 0] → x 8 = u) ∧ (L 11 = true → ∃ b, x 10 = .pointer (some ⟨b, 0, none⟩) ∧ TnBox wr.heap.size b TT W) ∧ (L 6 = true → ∃ u, x 6 = .tuple #[u, .int .i64 0]))) := ⟨_, rfl⟩
      refine region_lit3 (by kernel_rfl) (by kernel_rfl) (by kernel_rfl) [[], [], [], [2], [2, 3], [2, 3, 4], [0, 1, 2, 3, 4, 5], [0, 1, 2, 3, 4, 5, 6], [0, 1, 2, 3, 4, 5, 6, 7], [0, 1, 2, 3, 4, 5, 6, 7], [], [0, 1, 2, 3, 4, 5, 6, 7, 8, 10], [0, 1, 2, 3, 4, 5, 6, 7, 9]] (by kernel_rfl) [some 49, some 50, some 51, some 52, some 53, some 54, some 55, some 48, some 56, some 57, some 15, none, some 16] (by kernel_rfl) [[0, 6, 7, 8, 9, 11, 12], [1, 6, 7, 8, 9, 11, 12], [2, 3, 4, 5, 6, 7, 8, 9, 11, 12], [3, 4, 5, 6, 7, 8, 9, 11, 12], [4, 5, 6, 7, 8, 9, 11, 12], [5, 6, 7, 8, 9, 11, 12], [6, 7, 8, 9, 11, 12], [7, 8, 9, 11, 12], [8, 11], [9, 12], [10, 11], [11], [12]] (by kernel_rfl) [[], [], [], [], [], [11], [], [], [], [], [], [], []] [[], [], [], [2], [3], [4], [0, 1, 5], [6], [6, 7], [6, 7], [], [6, 7, 8, 10], [9]] (by kernel_rfl)
        Ip
        Vp
        (fun j W W' => match j with
          | 11 => True
          | _ => Below W.heap.size W W')
        [fun x => ⟨(fZm 7 (.slice ra T.length rc') (fEm 42)).toArray, []⟩,
   fun x => ⟨(fZm 12 (.pointer (some ⟨g12, 0, none⟩)) (fEm 38)).toArray, []⟩,
   fun x => ⟨(fZm 12 (.pointer (some ⟨g12, 0, none⟩)) (fEm 39)).toArray, []⟩,
   fun x => ⟨(fZm 51 (x 2) (fEm 1)).toArray, []⟩,
   fun x => ⟨(fZm 52 (x 3) (fEm 1)).toArray, []⟩,
   fun x => ⟨(fZm 53 (x 4) (fEm 1)).toArray, []⟩,
   fun x => ⟨(fZm 49 (x 0) (fZm 0 (x 1) (fZm 3 (x 5) (fEm 1)))).toArray, []⟩,
   fun x => ⟨(fZm 55 (x 6) []).toArray, []⟩,
   fun x => ⟨(fZm 48 (x 7) (fEm 8)).toArray, []⟩,
   fun x => ⟨(fZm 48 (x 7) (fEm 9)).toArray, []⟩,
   fun x => ⟨(fEm 16).toArray, []⟩,
   fun x => ⟨(fZm 15 (x 10) (fZm 40 (x 8) [])).toArray, []⟩,
   fun x => ⟨(fZm 57 (x 9) []).toArray, []⟩]
        ?hF ?mono ?h0 ?step [0, 1, 2, 3, 4, 6, 7, 8, 9, 10, 11, 12] (by kernel_rfl) ?fin
      case hF =>
        iterate 13 refine ⟨fun x => ⟨by kernel_rfl, by kernel_rfl⟩, ?_⟩
        trivial
      case mono =>
        intro i j hi hj hne hna hnk v W W' hE hv
        rw [HV.out] at hv ⊢
        simp only [List.length_cons, List.length_nil] at hi hj
        match i, hi with
        | 0, _ | 1, _ | 2, _ | 3, _ | 4, _ | 9, _ | 11, _ | 12, _ => exact hv
        | 5, _ =>
          match j, hj with
          | 5, _ => exact absurd rfl hne
          | 2, _ | 3, _ | 4, _ => exact absurd (by simp) hna
          | 11, _ => exact absurd (by simp) hnk
          | 0, _ | 1, _ | 6, _ | 7, _ | 8, _ | 9, _ | 10, _ | 12, _ => exact (by obtain ⟨a, c, e, h⟩ := hv; exact ⟨a, c, e, h.go hE⟩)
          | m + 13, h => exact absurd h (by omega)
        | 6, _ =>
          match j, hj with
          | 6, _ => exact absurd rfl hne
          | 0, _ | 1, _ | 2, _ | 3, _ | 4, _ | 5, _ => exact absurd (by simp) hna
          | 7, _ | 8, _ | 9, _ | 10, _ | 11, _ | 12, _ => exact (id hv)
          | m + 13, h => exact absurd h (by omega)
        | 7, _ =>
          match j, hj with
          | 7, _ => exact absurd rfl hne
          | 0, _ | 1, _ | 2, _ | 3, _ | 4, _ | 5, _ | 6, _ => exact absurd (by simp) hna
          | 8, _ | 9, _ | 10, _ | 11, _ | 12, _ => exact (id hv)
          | m + 13, h => exact absurd h (by omega)
        | 8, _ =>
          match j, hj with
          | 8, _ => exact absurd rfl hne
          | 0, _ | 1, _ | 2, _ | 3, _ | 4, _ | 5, _ | 6, _ | 7, _ => exact absurd (by simp) hna
          | 9, _ | 10, _ | 11, _ | 12, _ => exact (id hv)
          | m + 13, h => exact absurd h (by omega)
        | 10, _ =>
          match j, hj with
          | 10, _ => exact absurd rfl hne
          | 0, _ | 1, _ | 2, _ | 3, _ | 4, _ | 5, _ | 6, _ | 7, _ | 8, _ | 9, _ | 11, _ | 12, _ => exact (id hv)
          | m + 13, h => exact absurd h (by omega)
        | m + 13, h => exact absurd h (by omega)
      case h0 => intro x; exact toI HIp ⟨(Below.refl _ _).drew, (fun h => by cases h), (fun h => by cases h), (fun h => by cases h), (fun h => by cases h), (fun h => by cases h), (fun h => by cases h)⟩
      case step =>
        refine ⟨?_, ?_, ?_, ?_, ?_, ?_, ?_, ?_, ?_, ?_, ?_, ?_, ?_, trivial⟩
        all_goals
          intro x W L hI hL hV
          replace hI : (Below wr.heap.size wr W ∧ (L 6 = true → L 11 = false → ∃ u, x 6 = .tuple #[u, .int .i64 0] ∧ TnVal (fun z => wr.heap.size ≤ z ∧ z < W.heap.size ∧ (L 10 = true → x 10 ≠ .pointer (some ⟨z, 0, none⟩))) TT u W) ∧ (L 10 = true → L 11 = false → ∃ b, x 10 = .pointer (some ⟨b, 0, none⟩) ∧ wr.heap.size ≤ b ∧ Blk b (.cells zeroTn 35 (0, 0)) W) ∧ (L 7 = true → x 7 = x 6) ∧ (L 8 = true → ∀ u, x 6 = .tuple #[u, .int .i64 0] → x 8 = u) ∧ (L 11 = true → ∃ b, x 10 = .pointer (some ⟨b, 0, none⟩) ∧ TnBox wr.heap.size b TT W) ∧ (L 6 = true → ∃ u, x 6 = .tuple #[u, .int .i64 0])) := ofI HIp hI
          rw [HV.out] at hV
          simp only [AllV, and_true] at hV
          dsimp only [fZm, fEm, List.reduceReplicate, List.cons_append, List.nil_append]
        · clear hV
          have HI := Lib.hid hI
          clear hI
          go_wp2_with fail
          refine step3_done rfl ?_ ?_ ?_
          · exact (toI HIp HI.out)
          · exact (Below.refl _ _)
          · exact (toV HV rfl)
        · clear hV
          obtain ⟨q0, q1, q2, q3, q4, q5, q6, q7⟩ := blk8_cells (XC.out.go hI.1)
          have HI := Lib.hid hI
          clear hI
          go_wp2_with fail
          refine step3_done rfl ?_ ?_ ?_
          · exact (toI HIp HI.out)
          · exact (Below.refl _ _)
          · exact (toV HV rfl)
        · clear hV
          have HI := Lib.hid hI
          clear hI
          go_wp2_with fail
          refine step3_done rfl ?_ ?_ ?_
          · exact (toI HIp HI.out)
          · exact (Below.refl _ _)
          · exact (toV HV rfl)
        · have u2 := hV
          clear hV
          simp only [u2]
          clear u2
          have q4 := (XC.out.go hI.1).cell 4
          have HI := Lib.hid hI
          clear hI
          go_wp2_with fail
          refine step3_done rfl ?_ ?_ ?_
          · exact (toI HIp HI.out)
          · exact (Below.refl _ _)
          · exact (toV HV rfl)
        · have u3 := hV
          clear hV
          simp only [u3]
          clear u3
          have HL := Lib.hid hL
          have HI := Lib.hid hI
          clear hI hL
          go_wp2_with fail
          refine (HRu.out W).mono ?_
          rintro e W' ⟨rfl, hb⟩
          have HB := Lib.hid hb
          clear hb
          go_wp2_with fail
          refine step3_done rfl ?_ ?_ ?_
          · exact toI HIp ⟨up HI.out.1 HB.out, (fun h1 h2 => by
              obtain ⟨u, e, h⟩ := HI.out.2.1 h1 h2
              exact ⟨u, e, h.mono fun z hz => ⟨⟨hz.1, Nat.lt_of_lt_of_le hz.2.1 HB.out.size, hz.2.2⟩, HB.out.block z hz.2.1⟩⟩), (fun h1 h2 => by
              obtain ⟨b, e, h3, h⟩ := HI.out.2.2.1 h1 h2
              exact ⟨b, e, h3, h.go HB.out⟩), HI.out.2.2.2.1, HI.out.2.2.2.2.1, (fun h => absurd ((HL.out.2 11 (by simp)).symm.trans h) (by simp)), HI.out.2.2.2.2.2.2⟩
          · exact HB.out
          · exact toV HV rfl
        · have u4 := hV
          clear hV
          simp only [u4]
          clear u4
          have HL := Lib.hid hL
          have HI := Lib.hid hI
          clear hI hL
          go_wp2_with fail
          refine (HOp.out W).mono ?_
          rintro e W' ⟨oa, oc, rfl, hr, hb⟩
          have HB := Lib.hid hb
          have HR := Lib.hid hr
          clear hb hr
          go_wp2_with fail
          refine step3_done rfl ?_ ?_ ?_
          · exact toI HIp ⟨up HI.out.1 HB.out, (fun h1 h2 => by
              obtain ⟨u, e, h⟩ := HI.out.2.1 h1 h2
              exact ⟨u, e, h.mono fun z hz => ⟨⟨hz.1, Nat.lt_of_lt_of_le hz.2.1 HB.out.size, hz.2.2⟩, HB.out.block z hz.2.1⟩⟩), (fun h1 h2 => by
              obtain ⟨b, e, h3, h⟩ := HI.out.2.2.1 h1 h2
              exact ⟨b, e, h3, h.go HB.out⟩), HI.out.2.2.2.1, HI.out.2.2.2.2.1, (fun h => absurd ((HL.out.2 11 (by simp)).symm.trans h) (by simp)), HI.out.2.2.2.2.2.2⟩
          · exact HB.out
          · exact toV HV ⟨_, _, rfl, HR.out⟩
        · obtain ⟨u0, u1, ⟨oa, oc, u5, r5⟩⟩ := hV
          simp only [u0, u1, u5]
          have U5 := Lib.hid u5
          clear u0 u1 u5
          have HL := Lib.hid hL
          have HI := Lib.hid hI
          have HR := Lib.hid r5
          have hzW := hI.1.size
          clear hI hL r5
          go_wp2_with fail
          refine (HEd.out W oa oc HI.out.1 HR.out).mono ?_
          rintro e W' ⟨u, rfl, hv, hb⟩
          have HB := Lib.hid hb
          have HVv := Lib.hid hv
          clear hb hv
          go_wp2_with fail
          refine step3_done rfl ?_ ?_ ?_
          · exact toI HIp ⟨up HI.out.1 HB.out, (fun _ h2 => ⟨u, rfl, HVv.out.mono fun z hz => ⟨⟨Nat.le_trans hzW hz.1, hz.2, fun h3 e => by
              obtain ⟨b, e1, h4, h5⟩ := HI.out.2.2.1 h3 h2
              have e2 := e1.symm.trans e
              injection e2 with e2
              injection e2 with e2
              injection e2 with e2
              have := h5.lt
              have := hz.1
              omega⟩, rfl⟩⟩), (fun h1 h2 => by
              obtain ⟨b, e, h3, h⟩ := HI.out.2.2.1 h1 h2
              exact ⟨b, e, h3, h.go HB.out⟩), (fun h => absurd ((HL.out.2 7 (by simp)).symm.trans h) (by simp)), (fun h => absurd ((HL.out.2 8 (by simp)).symm.trans h) (by simp)), (fun h => absurd ((HL.out.2 11 (by simp)).symm.trans h) (by simp)), (fun _ => ⟨u, rfl⟩)⟩
          · exact HB.out
          · exact toV HV ⟨_, rfl⟩
        · obtain ⟨y6, u6⟩ := hV
          simp only [u6]
          have U6 := Lib.hid u6
          clear u6
          have HL := Lib.hid hL
          have HI := Lib.hid hI
          clear hI hL
          go_wp2_with fail
          refine step3_done rfl ?_ ?_ ?_
          · exact toI HIp ⟨HI.out.1, HI.out.2.1, HI.out.2.2.1, (fun _ => U6.out.symm), (fun h => absurd ((HL.out.2 8 (by simp)).symm.trans h) (by simp)), (fun h => absurd ((HL.out.2 11 (by simp)).symm.trans h) (by simp)), HI.out.2.2.2.2.2.2⟩
          · exact (Below.refl _ _)
          · exact toV HV ⟨_, rfl⟩
        · obtain ⟨⟨y6, u6⟩, ⟨y7, u7⟩⟩ := hV
          simp only [u7]
          have U6 := Lib.hid u6
          have U7 := Lib.hid u7
          clear u6 u7
          have HL := Lib.hid hL
          have HI := Lib.hid hI
          obtain ⟨u, e7⟩ := hI.2.2.2.2.2.2 (hL.1 6 (by simp))
          have e8 := hI.2.2.2.1 (hL.1 7 (by simp))
          have e9 : y7 = .tuple #[u, .int .i64 0] := U7.out.symm.trans (e8.trans e7)
          subst e9
          have E7 := Lib.hid e7
          clear hI hL e7 e8
          go_wp2_with fail
          refine step3_done rfl ?_ ?_ ?_
          · exact toI HIp ⟨HI.out.1, HI.out.2.1, HI.out.2.2.1, HI.out.2.2.2.1, (fun _ v h => by
              have e := E7.out.symm.trans h
              injection e with e
              show u = v
              simpa using e), (fun h => absurd ((HL.out.2 11 (by simp)).symm.trans h) (by simp)), HI.out.2.2.2.2.2.2⟩
          · exact (Below.refl _ _)
          · exact toV HV ⟨_, rfl⟩
        · obtain ⟨⟨y6, u6⟩, ⟨y7, u7⟩⟩ := hV
          simp only [u7]
          have U6 := Lib.hid u6
          have U7 := Lib.hid u7
          clear u6 u7
          have HL := Lib.hid hL
          have HI := Lib.hid hI
          obtain ⟨u, e7⟩ := hI.2.2.2.2.2.2 (hL.1 6 (by simp))
          have e8 := hI.2.2.2.1 (hL.1 7 (by simp))
          have e9 : y7 = .tuple #[u, .int .i64 0] := U7.out.symm.trans (e8.trans e7)
          subst e9
          have E7 := Lib.hid e7
          clear hI hL e7 e8
          go_wp2_with fail
          refine step3_done rfl ?_ ?_ ?_
          · exact (toI HIp HI.out)
          · exact (Below.refl _ _)
          · exact (toV HV rfl)
        · clear hV
          have HL := Lib.hid hL
          have HI := Lib.hid hI
          have hzW := hI.1.size
          clear hI hL
          go_wp2_with fail
          have uW : ∀ o, Below W.heap.size W (W.alloc o) := fun o => (Below.refl _ _).alloc (Nat.le_refl _) o
          refine step3_done rfl ?_ ?_ ?_
          · exact toI HIp ⟨up HI.out.1 (uW _), (fun h1 h2 => by
              obtain ⟨u, e, h⟩ := HI.out.2.1 h1 h2
              refine ⟨u, e, h.mono fun z hz => ⟨⟨hz.1, Nat.lt_of_lt_of_le hz.2.1 (uW _).size, fun _ e => ?_⟩, (uW _).block z hz.2.1⟩⟩
              injection e with e
              injection e with e
              injection e with e
              have := hz.2.1
              omega), (fun _ _ => ⟨_, rfl, hzW, Blk.new _ _⟩), HI.out.2.2.2.1, HI.out.2.2.2.2.1, (fun h => absurd ((HL.out.2 11 (by simp)).symm.trans h) (by simp)), HI.out.2.2.2.2.2.2⟩
          · exact (uW _)
          · exact toV HV ⟨_, rfl⟩
        · obtain ⟨⟨y6, u6⟩, ⟨y7, u7⟩, ⟨y8, u8⟩, ⟨y10, u10⟩⟩ := hV
          simp only [u10, u8]
          have U6 := Lib.hid u6
          have U7 := Lib.hid u7
          have U8 := Lib.hid u8
          have U10 := Lib.hid u10
          clear u6 u7 u8 u10
          have HL := Lib.hid hL
          have HI := Lib.hid hI
          obtain ⟨u, e7, ht⟩ := hI.2.1 (hL.1 6 (by simp)) (hL.2 11 (by simp))
          have e9 := hI.2.2.2.2.1 (hL.1 8 (by simp)) u e7
          obtain ⟨b, e11, hb1, hb2⟩ := hI.2.2.1 (hL.1 10 (by simp)) (hL.2 11 (by simp))
          have f9 : y8 = u := U8.out.symm.trans e9
          have f11 : y10 = .pointer (some ⟨b, 0, none⟩) := U10.out.symm.trans e11
          subst f9 f11
          have hne : ∀ z, (wr.heap.size ≤ z ∧ z < W.heap.size ∧ (L 10 = true → x 10 ≠ .pointer (some ⟨z, 0, none⟩))) → z ≠ b := fun z hz e => hz.2.2 (hL.1 10 (by simp)) (by rw [e]; exact e11)
          obtain ⟨a0, c0, a1, c1, a2, c2, a3, c3, a4, c4, rfl, -, -, -, -, -, -⟩ := ht.open
          have HT := Lib.hid ht
          have HB2 := Lib.hid hb2
          have HNe := Lib.hid hne
          have E11 := Lib.hid e11
          obtain ⟨p0, p1, p2, p3, p4, p5, p6, p7, p8, p9⟩ := blk10_cells hb2
          have pf := hb2.frozen
          have hlt := hb2.lt
          clear hI hL ht hb2 hne e7 e9 e11
          go_wp2_with fail
          have HT10 := fun v0 v1 v2 v3 v4 v5 v6 v7 v8 v9 => touch10 W b v0 v1 v2 v3 v4 v5 v6 v7 v8 v9
          have HX10 := fun v0 v1 v2 v3 v4 v5 v6 v7 v8 v9 => blk_set10 HB2.out v0 v1 v2 v3 v4 v5 v6 v7 v8 v9
          refine step3_done (v := undef) rfl ?_ ?_ ?_
          · exact toI HIp ⟨HI.out.1.trans ((HT10 _ _ _ _ _ _ _ _ _ _).toBelow HI.out.1.size (fun z hz => by omega)), (fun _ h => absurd h (by simp [setB])), (fun _ h => absurd h (by simp [setB])), HI.out.2.2.2.1, HI.out.2.2.2.2.1, (fun _ => ⟨b, E11.out, _, _, _, _, _, _, _, _, _, _, HX10 _ _ _ _ _ _ _ _ _ _, hb1, HT.out.mono fun z hz => ⟨⟨hz.1, Nat.lt_of_lt_of_le hz.2.1 (HT10 _ _ _ _ _ _ _ _ _ _).size, HNe.out z hz⟩, (HT10 _ _ _ _ _ _ _ _ _ _).block z hz.2.1 (HNe.out z hz)⟩⟩), HI.out.2.2.2.2.2.2⟩
          · exact trivial
          · exact toV HV rfl
        · have u9 := hV
          clear hV
          simp only [u9]
          clear u9
          have HI := Lib.hid hI
          clear hI
          go_wp2_with fail
          refine step3_done rfl ?_ ?_ ?_
          · exact (toI HIp HI.out)
          · exact (Below.refl _ _)
          · exact (toV HV rfl)
      case fin =>
        intro x W L hL hI hV
        replace hI : (Below wr.heap.size wr W ∧ (L 6 = true → L 11 = false → ∃ u, x 6 = .tuple #[u, .int .i64 0] ∧ TnVal (fun z => wr.heap.size ≤ z ∧ z < W.heap.size ∧ (L 10 = true → x 10 ≠ .pointer (some ⟨z, 0, none⟩))) TT u W) ∧ (L 10 = true → L 11 = false → ∃ b, x 10 = .pointer (some ⟨b, 0, none⟩) ∧ wr.heap.size ≤ b ∧ Blk b (.cells zeroTn 35 (0, 0)) W) ∧ (L 7 = true → x 7 = x 6) ∧ (L 8 = true → ∀ u, x 6 = .tuple #[u, .int .i64 0] → x 8 = u) ∧ (L 11 = true → ∃ b, x 10 = .pointer (some ⟨b, 0, none⟩) ∧ TnBox wr.heap.size b TT W) ∧ (L 6 = true → ∃ u, x 6 = .tuple #[u, .int .i64 0])) := ofI HIp hI
        rw [HV.out] at hV
        simp only [AllV, and_true] at hV
        obtain ⟨u0, u1, u2, u3, u4, ⟨y6, u6⟩, ⟨y7, u7⟩, ⟨y8, u8⟩, u9, ⟨y10, u10⟩, u11, u12⟩ := hV
        simp only [getsD, List.getD_cons_succ, List.getD_cons_zero, List.length_cons, List.length_nil, List.range, List.range.loop, u0, u1, u2, u3, u4, u6, u7, u8, u9, u10, u11, u12, Act.put, List.setIfInBounds_toArray, List.set_cons_succ, List.set_cons_zero]
        have U10 := Lib.hid u10
        clear u0 u1 u2 u3 u4 u6 u7 u8 u9 u10 u11 u12
        obtain ⟨b, e11, a0', c0', a1', c1', a2', c2', a3', c3', a4', c4', hb, hl, hv⟩ := hI.2.2.2.2.2.1 (hL 11 (by simp))
        have f11 : y10 = .pointer (some ⟨b, 0, none⟩) := U10.out.symm.trans e11
        subst f11
        obtain ⟨hf9, rs9, ru9, rm9, -, -⟩ := hv.at
        have X9 := Lib.hid (XN.out.go hI.1)
        have HRS := Lib.hid (And.intro hf9 (And.intro rs9 (And.intro ru9 rm9)))
        have T9 := Lib.hid (TR.out.trans (Touch.of_below hI.1))
        obtain ⟨p0, p1, p2, p3, p4, p5, p6, p7, p8, p9⟩ := blk10_cells hb
        have hbl := hb.lt
        have hgs := XN.out.lt
        have hzr := hI.1.size
        obtain ⟨xa, xc, xua, xuc, xma, xmc, hx9, -⟩ := X9.out
        obtain ⟨q0, q1, q2, q3, q4, q5, q6, q7⟩ := blk8_cells hx9
        have qf := hx9.frozen
        clear hI hL hv hb e11 hf9 rs9 ru9 rm9 hl hx9
        go_wp2_with fail
        have HN := X9.out.put (m := TT.node) (A := fun z => wr.heap.size ≤ z ∧ z < W.heap.size ∧ z ≠ b) (fun z hz => ⟨hz.2.1, by omega⟩) HRS.out.2.1 HRS.out.2.2.1 HRS.out.2.2.2 HRS.out.1
        have HT8 := touch8 W g12 (.int .i64 TT.node.me) (.int .i64 TT.node.epoch) (.int .i64 TT.node.up) (.bool TT.node.ready) (.string TT.node.text) (.slice a0' TT.node.sides.length c0') (.slice a1' TT.node.undo.length c1') (.slice a2' TT.node.marks.length c2')
        go_roundw
        case rel => exact ⟨i + 1, by omega, by push_cast; rfl, by rw [← HTT.out]; exact HN, T9.out.trans HT8⟩
        case measure => simp [intOf]; omega
    · have hiK : i = K := by omega
      subst hiK
      have hlt' : ¬ ((i : Int) < (i : Int)) := by omega
      clear hx ht HEd0 HOp1 HTT0 hi hlt
      go_wp2_with fail
      go_loopw [17] (fun vi wr => ∃ j : Nat, j ≤ i ∧ vi = .int .i64 (j : Int) ∧ NdBox g12 (ndT T c (i - j)) wr ∧ Touch (fun z => z = g12) w7 wr) (fun vi _ => i - (intOf vi).toNat)
      case atStart => exact ⟨0, by omega, rfl, by rw [Nat.sub_zero]; exact XN.out, TR.out⟩
      case round =>
        obtain ⟨j, hj, rfl, hx, ht⟩ := hrel
        clear XN TR
        have XN := Lib.hid hx
        have TR := Lib.hid ht
        obtain ⟨d0, f0, d1, f1, d2, f2, hxb, hs0, hs1, hs2, hfit⟩ := hx
        have hA : ∀ z, (z < wr.heap.size ∧ z ≠ g12) → z < wr.heap.size ∧ wr.heap[z]? = wr.heap[z]? := fun z hz => ⟨hz.1, rfl⟩
        have HRr : Hid (RdS (· < wr.heap.size) wr T ra T.length rc') := HR7.out.mono fun z hz => ⟨Nat.lt_of_lt_of_le hz.1 ht.size, ht.block z hz.1 hz.2⟩
        have HGr : Hid (Good wr) := (Hg.out.go B7.out).keep ht.size fun b hb => ht.block b (by have := (Hg.out.go B7.out).size; omega) (by omega)
        by_cases hlt : j < i
        · have hlt' : (j : Int) < (i : Int) := by omega
          obtain ⟨q, hq⟩ : ∃ q, i - j = q + 1 := ⟨i - j - 1, by omega⟩
          have hq2 : i - (j + 1) = q := by omega
          have HU := HUU0.out q (by omega)
          have hcall := HUn0.out wr ra rc' HGr.out HRr.out (q + 1) (by omega) d0 f0 d1 f1 d2 f2
          rw [hq] at hxb hs0 hs1 hs2 hfit XN
          have HCall := Lib.hid (hcall (hs0.mono hA) (hs1.mono hA) (hs2.mono hA) hfit)
          obtain ⟨SN, hSN⟩ : ∃ SN, SN = ndT T c (q + 1) := ⟨_, rfl⟩
          rw [← hSN] at hxb XN HCall HU
          obtain ⟨q0, q1, q2, q3, q4, q5, q6, q7⟩ := blk8_cells hxb
          have HU' := Lib.hid HU
          have HQ2 := Lib.hid hq2
          have hgs := hxb.lt
          clear hxb hs0 hs1 hs2 hfit ht hA hSN hq hq2 HU hcall
          go_wp2_with fail
          refine HCall.out.mono ?_
          rintro e W h5
          unfold TurnE at h5
          rw [if_pos HU'.out.1] at h5
          obtain ⟨v, rfl, hv, b5⟩ := h5
          obtain ⟨TT, hTT⟩ : ∃ TT, TT = undoT SN := ⟨_, rfl⟩
          have HTT : Hid (TT.node = ndT T c q) := by rw [hTT]; exact HU'.out.2
          rw [← hTT] at hv
          obtain ⟨a0', c0', a1', c1', a2', c2', a3', c3', a4', c4', rfl, hf9, rs9, ru9, rm9, -, -⟩ := hv.open
          have X9 := Lib.hid (XN.out.go b5)
          have B5' := Lib.hid b5
          have HRS := Lib.hid (And.intro hf9 (And.intro rs9 (And.intro ru9 rm9)))
          have hzr := b5.size
          clear hv b5 hf9 rs9 ru9 rm9 q0 q1 q2 q3 q4 q5 q6 q7 hTT HCall
          go_upto_region 17 with fail
          refine abs_w (fun W' => Below W.heap.size W W' ∧ Blk W.heap.size (.cells #[.int .i64 TT.node.me, .int .i64 TT.node.epoch, .int .i64 TT.node.up, .bool TT.node.ready, .string TT.node.text, .slice a0' TT.node.sides.length c0', .slice a1' TT.node.undo.length c1', .slice a2' TT.node.marks.length c2', .slice a3' TT.posts.length c3', .slice a4' TT.recs.length c4'] 35 (0, 0)) W') ⟨(Below.refl _ _).alloc (Nat.le_refl _) _, Blk.new W _⟩ ?_
          rintro W2 ⟨b6, x6⟩
          have X10 := Lib.hid (X9.out.go b6)
          have T10 := Lib.hid (TR.out.trans (Touch.of_below (up B5'.out b6)))
          have hzz := b6.size
          have HRT := Lib.hid (fun z (hz : Fresh wr.heap.size W z) => (⟨⟨hz.1, hz.2⟩, b6.block z hz.2⟩ : Fresh wr.heap.size W z ∧ W2.heap[z]? = W.heap[z]?))
          obtain ⟨p0, p1, p2, p3, p4, p5, p6, p7, p8, p9⟩ := blk10_cells x6
          have hbl := x6.lt
          obtain ⟨xa, xc, xua, xuc, xma, xmc, hx9, -⟩ := X10.out
          obtain ⟨q0, q1, q2, q3, q4, q5, q6, q7⟩ := blk8_cells hx9
          have qf := hx9.frozen
          have hgs2 := hx9.lt
          clear b6 x6 hx9 X9 B5'
          go_wp2_with fail
          have HN := X10.out.put (m := TT.node) (A := fun z => Fresh wr.heap.size W z) (fun z hz => ⟨by have := hz.2; omega, by have := hz.1; omega⟩) (HRS.out.2.1.mono HRT.out) (HRS.out.2.2.1.mono HRT.out) (HRS.out.2.2.2.mono HRT.out) HRS.out.1
          have HT8 := touch8 W2 g12 (.int .i64 TT.node.me) (.int .i64 TT.node.epoch) (.int .i64 TT.node.up) (.bool TT.node.ready) (.string TT.node.text) (.slice a0' TT.node.sides.length c0') (.slice a1' TT.node.undo.length c1') (.slice a2' TT.node.marks.length c2')
          go_roundw
          case rel => exact ⟨j + 1, by omega, by push_cast; rfl, by rw [HQ2.out, ← HTT.out]; exact HN, T10.out.trans HT8⟩
          case measure => simp [intOf]; omega
        · have hji : j = i := by omega
          subst hji
          have hlt' : ¬ ((j : Int) < (j : Int)) := by omega
          rw [Nat.sub_self] at hxb hs0 hs1 hs2 hfit XN
          have HCall := Lib.hid (HUn0.out wr ra rc' HGr.out HRr.out 0 (by omega) d0 f0 d1 f1 d2 f2 (hs0.mono hA) (hs1.mono hA) (hs2.mono hA) hfit)
          obtain ⟨q0, q1, q2, q3, q4, q5, q6, q7⟩ := blk8_cells hxb
          have hgs := hxb.lt
          have XC := Lib.hid hxb
          have hbw := Lib.hid (B7.out.trans (ht.toBelow (by have := B7.out.size; omega) (fun z hz => by omega)))
          clear hxb hs0 hs1 hs2 hfit ht hA hlt hj
          go_wp2_with fail
          refine HCall.out.mono ?_
          rintro e W h5
          unfold TurnE at h5
          rw [HNT0.out, if_neg (by decide)] at h5
          obtain ⟨rfl, b5⟩ := h5
          have XC5 := Lib.hid (XC.out.go b5)
          have B5' := Lib.hid (hbw.out.trans (b5.mono hbw.out.size))
          clear b5 q0 q1 q2 q3 q4 q5 q6 q7 HCall
          go_upto_region 21 with fail
          refine abs_w (fun W' => Below W.heap.size W W') ((Below.refl _ _).alloc (Nat.le_refl _) _) ?_
          intro W2 b6
          have XC6 := Lib.hid (XC5.out.go b6)
          have B6' := Lib.hid (B5'.out.trans (b6.mono B5'.out.size))
          clear b6 XC5 B5'
          obtain ⟨Vp, HV⟩ : ∃ Vp : Nat → Value → World → Prop, Hid (Vp = fun i v W => match i with
              | 0 => v = .int .i64 0
              | 1 => v = .bool true
              | 2 => v = .bool true
              | 3 => v = .int .i64 6
              | 4 => v = .bool true
              | 5 => v = .bool true
              | 6 => v = .bool true
              | 7 => v = .int .i64 6
              | 8 => v = .bool true
              | 9 => v = .bool true
              | 10 => v = .bool true
              | 11 => v = .pointer (some ⟨g12, 4, none⟩)
              | 12 => v = .string c
              | 13 => v = .string s
              | 14 => v = .string c
              | 15 => v = .bool true
              | 16 => v = .bool true
              | _ => v = .bool true) := ⟨_, rfl⟩
          obtain ⟨Ip, HIp⟩ : ∃ Ip : (Nat → Bool) → (Nat → Value) → World → Prop, Hid (Ip = fun L x W => (Below W2.heap.size W2 W)) := ⟨_, rfl⟩
          refine region_lit3 (by kernel_rfl) (by kernel_rfl) (by kernel_rfl) [[], [0], [0, 1], [0, 1, 2], [0, 1, 2, 3], [0, 1, 2, 3, 4], [0, 1, 2, 3, 4, 5], [0, 1, 2, 3, 4, 5, 6], [0, 1, 2, 3, 4, 5, 6, 7], [0, 1, 2, 3, 4, 5, 6, 7, 8], [0, 1, 2, 3, 4, 5, 6, 7, 8, 9], [0, 1, 2, 3, 4, 5, 6, 7, 8, 9, 10], [0, 1, 2, 3, 4, 5, 6, 7, 8, 9, 10, 11], [0, 1, 2, 3, 4, 5, 6, 7, 8, 9, 10], [0, 1, 2, 3, 4, 5, 6, 7, 8, 9, 10, 13], [0, 1, 2, 3, 4, 5, 6, 7, 8, 9, 10, 11, 12, 13, 14], [0, 1, 2, 3, 4, 5, 6, 7, 8, 9, 10, 11, 12, 13, 14, 15], [0, 1, 2, 3, 4, 5, 6, 7, 8, 9, 10, 11, 12, 13, 14, 15, 16]] (by kernel_rfl) [some 83, some 84, some 85, some 86, some 87, some 88, some 89, some 90, some 91, some 92, some 93, some 94, some 95, some 96, some 97, some 98, some 99, some 6] (by kernel_rfl) [[0, 1, 2, 3, 4, 5, 6, 7, 8, 9, 10, 11, 12, 13, 14, 15, 16, 17], [1, 2, 3, 4, 5, 6, 7, 8, 9, 10, 11, 12, 13, 14, 15, 16, 17], [2, 3, 4, 5, 6, 7, 8, 9, 10, 11, 12, 13, 14, 15, 16, 17], [3, 4, 5, 6, 7, 8, 9, 10, 11, 12, 13, 14, 15, 16, 17], [4, 5, 6, 7, 8, 9, 10, 11, 12, 13, 14, 15, 16, 17], [5, 6, 7, 8, 9, 10, 11, 12, 13, 14, 15, 16, 17], [6, 7, 8, 9, 10, 11, 12, 13, 14, 15, 16, 17], [7, 8, 9, 10, 11, 12, 13, 14, 15, 16, 17], [8, 9, 10, 11, 12, 13, 14, 15, 16, 17], [9, 10, 11, 12, 13, 14, 15, 16, 17], [10, 11, 12, 13, 14, 15, 16, 17], [11, 12, 15, 16, 17], [12, 15, 16, 17], [13, 14, 15, 16, 17], [14, 15, 16, 17], [15, 16, 17], [16, 17], [17]] (by kernel_rfl) [[], [], [], [], [], [], [], [], [], [], [], [], [], [], [], [], [], []] [[], [0], [1], [2], [2, 3], [2, 4], [5], [6], [6, 7], [6, 8], [9], [10], [10, 11], [10], [10, 13], [10, 12, 14], [10, 15], [16]] (by kernel_rfl)
            Ip
            Vp
            (fun j W W' => match j with
              | 14 => Below W.heap.size W W'
              | _ => Below W.heap.size W W')
            [fun x => ⟨(fZm 9 (.int .i64 0) (fEm 74)).toArray, []⟩,
   fun x => ⟨(fZm 83 (x 0) (fEm 1)).toArray, []⟩,
   fun x => ⟨(fZm 84 (x 1) (fEm 1)).toArray, []⟩,
   fun x => ⟨(fZm 11 (.int .i64 6) (fZm 73 (x 2) (fEm 1))).toArray, []⟩,
   fun x => ⟨(fZm 85 (x 2) (fZm 0 (x 3) (fEm 1))).toArray, []⟩,
   fun x => ⟨(fZm 85 (x 2) (fZm 1 (x 4) (fEm 1))).toArray, []⟩,
   fun x => ⟨(fZm 88 (x 5) (fEm 1)).toArray, []⟩,
   fun x => ⟨(fZm 21 (.int .i64 6) (fZm 67 (x 6) (fEm 1))).toArray, []⟩,
   fun x => ⟨(fZm 89 (x 6) (fZm 0 (x 7) (fEm 1))).toArray, []⟩,
   fun x => ⟨(fZm 89 (x 6) (fZm 1 (x 8) (fEm 1))).toArray, []⟩,
   fun x => ⟨(fZm 92 (x 9) (fEm 1)).toArray, []⟩,
   fun x => ⟨(fZm 12 (.pointer (some ⟨g12, 0, none⟩)) (fZm 80 (x 10) (fEm 1))).toArray, []⟩,
   fun x => ⟨(fZm 93 (x 10) (fZm 0 (x 11) (fEm 1))).toArray, []⟩,
   fun x => ⟨(fZm 1 (.string s) (fZm 91 (x 10) (fEm 3))).toArray, []⟩,
   fun x => ⟨(fZm 93 (x 10) (fZm 2 (x 13) (fEm 1))).toArray, []⟩,
   fun x => ⟨(fZm 93 (x 10) (fZm 1 (x 12) (fZm 1 (x 14) (fEm 1)))).toArray, []⟩,
   fun x => ⟨(fZm 93 (x 10) (fZm 4 (x 15) (fEm 1))).toArray, []⟩,
   fun x => ⟨(fZm 99 (x 16) []).toArray, []⟩]
            ?hF ?mono ?h0 ?step [0, 1, 2, 3, 4, 5, 6, 7, 8, 9, 10, 11, 12, 13, 14, 15, 16, 17] (by kernel_rfl) ?fin
          case hF =>
            iterate 18 refine ⟨fun x => ⟨by kernel_rfl, by kernel_rfl⟩, ?_⟩
            trivial
          case mono =>
            intro i j hi hj hne hna hnk v W W' hE hv
            rw [HV.out] at hv ⊢
            simp only [List.length_cons, List.length_nil] at hi hj
            match i, hi with
            | 0, _ | 1, _ | 2, _ | 3, _ | 4, _ | 5, _ | 6, _ | 7, _ | 8, _ | 9, _ | 10, _ | 11, _ | 12, _ | 13, _ | 14, _ | 15, _ | 16, _ | 17, _ => exact hv
            | m + 18, h => exact absurd h (by omega)
          case h0 => intro x; exact toI HIp (Below.refl _ _).drew
          case step =>
            refine ⟨?_, ?_, ?_, ?_, ?_, ?_, ?_, ?_, ?_, ?_, ?_, ?_, ?_, ?_, ?_, ?_, ?_, ?_, trivial⟩
            all_goals
              intro x W L hI hL hV
              replace hI : (Below W2.heap.size W2 W) := ofI HIp hI
              rw [HV.out] at hV
              simp only [AllV, and_true] at hV
              dsimp only [fZm, fEm, List.reduceReplicate, List.cons_append, List.nil_append]
            · clear hV
              have HI := Lib.hid hI
              clear hI
              go_wp2_with fail
              refine step3_done rfl ?_ ?_ ?_
              · exact (toI HIp HI.out)
              · exact (Below.refl _ _)
              · exact (toV HV rfl)
            · have u0 := hV
              clear hV
              simp only [u0]
              clear u0
              have HI := Lib.hid hI
              clear hI
              go_wp2_with fail
              refine step3_done rfl ?_ ?_ ?_
              · exact (toI HIp HI.out)
              · exact (Below.refl _ _)
              · exact (toV HV rfl)
            · have u1 := hV
              clear hV
              simp only [u1]
              clear u1
              have HI := Lib.hid hI
              clear hI
              go_wp2_with fail
              refine step3_done rfl ?_ ?_ ?_
              · exact (toI HIp HI.out)
              · exact (Below.refl _ _)
              · exact (toV HV rfl)
            · have u2 := hV
              clear hV
              simp only [u2]
              clear u2
              have HI := Lib.hid hI
              clear hI
              go_wp2_with fail
              refine step3_done rfl ?_ ?_ ?_
              · exact (toI HIp HI.out)
              · exact (Below.refl _ _)
              · exact (toV HV rfl)
            · obtain ⟨u2, u3⟩ := hV
              simp only [u2, u3]
              clear u2 u3
              have HI := Lib.hid hI
              clear hI
              go_wp2_with fail
              refine step3_done rfl ?_ ?_ ?_
              · exact (toI HIp HI.out)
              · exact (Below.refl _ _)
              · exact (toV HV rfl)
            · obtain ⟨u2, u4⟩ := hV
              simp only [u2, u4]
              clear u2 u4
              have HI := Lib.hid hI
              clear hI
              go_wp2_with fail
              refine step3_done rfl ?_ ?_ ?_
              · exact (toI HIp HI.out)
              · exact (Below.refl _ _)
              · exact (toV HV rfl)
            · have u5 := hV
              clear hV
              simp only [u5]
              clear u5
              have HI := Lib.hid hI
              clear hI
              go_wp2_with fail
              refine step3_done rfl ?_ ?_ ?_
              · exact (toI HIp HI.out)
              · exact (Below.refl _ _)
              · exact (toV HV rfl)
            · have u6 := hV
              clear hV
              simp only [u6]
              clear u6
              have HI := Lib.hid hI
              clear hI
              go_wp2_with fail
              refine step3_done rfl ?_ ?_ ?_
              · exact (toI HIp HI.out)
              · exact (Below.refl _ _)
              · exact (toV HV rfl)
            · obtain ⟨u6, u7⟩ := hV
              simp only [u6, u7]
              clear u6 u7
              have HI := Lib.hid hI
              clear hI
              go_wp2_with fail
              refine step3_done rfl ?_ ?_ ?_
              · exact (toI HIp HI.out)
              · exact (Below.refl _ _)
              · exact (toV HV rfl)
            · obtain ⟨u6, u8⟩ := hV
              simp only [u6, u8]
              clear u6 u8
              have HI := Lib.hid hI
              clear hI
              go_wp2_with fail
              refine step3_done rfl ?_ ?_ ?_
              · exact (toI HIp HI.out)
              · exact (Below.refl _ _)
              · exact (toV HV rfl)
            · have u9 := hV
              clear hV
              simp only [u9]
              clear u9
              have HI := Lib.hid hI
              clear hI
              go_wp2_with fail
              refine step3_done rfl ?_ ?_ ?_
              · exact (toI HIp HI.out)
              · exact (Below.refl _ _)
              · exact (toV HV rfl)
            · have u10 := hV
              clear hV
              simp only [u10]
              clear u10
              have HI := Lib.hid hI
              clear hI
              go_wp2_with fail
              refine step3_done rfl ?_ ?_ ?_
              · exact (toI HIp HI.out)
              · exact (Below.refl _ _)
              · exact (toV HV rfl)
            · obtain ⟨u10, u11⟩ := hV
              simp only [u10, u11]
              clear u10 u11
              have q4 : W.cell? ⟨g12, 4, none⟩ = some (.string c) := (XC6.out.go hI).cell 4
              have HI := Lib.hid hI
              clear hI
              go_wp2_with fail
              refine step3_done rfl ?_ ?_ ?_
              · exact (toI HIp HI.out)
              · exact (Below.refl _ _)
              · exact (toV HV rfl)
            · have u10 := hV
              clear hV
              simp only [u10]
              clear u10
              have HI := Lib.hid hI
              clear hI
              go_wp2_with fail
              refine step3_done rfl ?_ ?_ ?_
              · exact (toI HIp HI.out)
              · exact (Below.refl _ _)
              · exact (toV HV rfl)
            · obtain ⟨u10, u13⟩ := hV
              simp only [u10, u13]
              clear u10 u13
              have HI := Lib.hid hI
              clear hI
              go_wp2_with fail
              refine (HLt.out W).mono ?_
              rintro e W' ⟨rfl, hb⟩
              have HB := Lib.hid hb
              clear hb
              go_wp2_with fail
              refine step3_done rfl ?_ ?_ ?_
              · exact (toI HIp (up HI.out HB.out))
              · exact HB.out
              · exact (toV HV rfl)
            · obtain ⟨u10, u12, u14⟩ := hV
              simp only [u10, u12, u14]
              clear u10 u12 u14
              have HI := Lib.hid hI
              clear hI
              go_wp2_with fail
              refine step3_done rfl ?_ ?_ ?_
              · exact (toI HIp HI.out)
              · exact (Below.refl _ _)
              · exact (toV HV rfl)
            · obtain ⟨u10, u15⟩ := hV
              simp only [u10, u15]
              clear u10 u15
              have HI := Lib.hid hI
              clear hI
              go_wp2_with fail
              refine step3_done rfl ?_ ?_ ?_
              · exact (toI HIp HI.out)
              · exact (Below.refl _ _)
              · exact (toV HV rfl)
            · have u16 := hV
              clear hV
              simp only [u16]
              clear u16
              have HI := Lib.hid hI
              clear hI
              go_wp2_with fail
              refine step3_done rfl ?_ ?_ ?_
              · exact (toI HIp HI.out)
              · exact (Below.refl _ _)
              · exact (toV HV rfl)
          case fin =>
            intro x W L hL hI hV
            replace hI : (Below W2.heap.size W2 W) := ofI HIp hI
            rw [HV.out] at hV
            simp only [AllV, and_true] at hV
            obtain ⟨u0, u1, u2, u3, u4, u5, u6, u7, u8, u9, u10, u11, u12, u13, u14, u15, u16, u17⟩ := hV
            simp only [getsD, List.getD_cons_succ, List.getD_cons_zero, List.length_cons, List.length_nil, List.range, List.range.loop, u0, u1, u2, u3, u4, u5, u6, u7, u8, u9, u10, u11, u12, u13, u14, u15, u16, u17, Act.put, List.setIfInBounds_toArray, List.set_cons_succ, List.set_cons_zero]
            clear u0 u1 u2 u3 u4 u5 u6 u7 u8 u9 u10 u11 u12 u13 u14 u15 u16 u17
            have HI := Lib.hid hI
            clear hI hL
            go_wp2_with fail
            go_ret
            exact ⟨rfl, B6'.out.trans (HI.out.mono B6'.out.size)⟩
end Go.Proofs.YtkbfhgcjimfgkaaDoor
