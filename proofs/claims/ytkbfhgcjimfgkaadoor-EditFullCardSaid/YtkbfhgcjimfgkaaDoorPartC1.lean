/- The walk of node.Edit. -/
import Derived.Test.YtkbfhgcjimfgkaaDoorPartC0
import Derived.Test.YtkbfhgcjimfgkaaDoorPartB9
import Derived.Test.YtkbfhgcjimfgkaaDoorPartB7
import Derived.Test.YtkbfhgcjimfgkaaDoorPartB6
import Derived.Test.YtkbfhgcjimfgkaaDoorPartB4
import Derived.Test.YtkbfhgcjimfgkaaDoorPartA6
import Derived.BigQuiet
import Derived.Test.YtkbfhgcjimfgkaaDoorPartA3
import Derived.Laws.BytesArg
import Derived.Test.YtkbfhgcjimfgkaaDoorPartB8
import Derived.Test.YtkbfhgcjimfgkaaDoorPartB0
set_option linter.unusedVariables false
set_option linter.unusedSimpArgs false
set_option linter.unusedSimpArgs false
namespace Go.Proofs.YtkbfhgcjimfgkaaDoor
open Go.RowKit
def Tn.setUndo (t : Tn) (l : List Op) : Tn := { t with node := { t.node with undo := l } }
/-- the row of the undo took another shape, and is stored -/
theorem WkG.setUndo {base g : Nat} {t : Tn} {vs : Nat → Value} {w w' : World} {v' : Value} {l : List Op} (h : WkM base g t vs w) (hg : w.grownBy w' (vs 1).ownBlock) (hv : ∀ k, v'.ownBlock = some k → (vs 1).ownBlock = some k ∨ w.heap.size ≤ k) (hn : OwnO (WX base g vs) base v' l w') :
    WkM base g (t.setUndo l) (fun q => if q = 1 then v' else vs q) (w'.setCell ⟨g, 6, none⟩ v') ∧ Touch (Mine g vs) w (w'.setCell ⟨g, 6, none⟩ v') ∧ ∀ z, Mine g (fun q => if q = 1 then v' else vs q) z → Mine g vs z ∨ w.heap.size ≤ z := by
  have h1 : WkG base g (t.setUndo l) vs (fun q => if q = 1 then v' else vs q) w' := h.grow (t' := t.setUndo l) (j := 1) (by omega) hg hv hn (fun i hi X v W h => by
    match i, hi with
    | 1, hi => exact absurd rfl hi
    | 0, _ => exact h
    | 2, _ => exact h
    | 3, _ => exact h
    | 4, _ => exact h
    | i + 5, _ => trivial) rfl h.fit
  have ht := touch1 (w := w') (g := g) (i := 6) v'
  refine ⟨h1.put ht (h1.box.set 6 v') (fun i X v W h => h) h.fit, ?_, ?_⟩
  · have hg' : Touch (Mine g vs) w w' := ⟨hg.os, hg.tape, hg.output, hg.size, fun k hk hs => hg.block k hk fun e => hs (.inr ⟨1, by omega, e.symm⟩)⟩
    exact hg'.trans (ht.mono fun k _ hk => .inl hk)
  · rintro z (hz | ⟨q, hq, hz⟩)
    · exact .inl (.inl hz)
    · by_cases e : q = 1
      · subst e
        simp only [if_true] at hz
        exact (hv z hz).imp_left fun h => .inr ⟨1, by omega, h⟩
      · simp only [if_neg e] at hz
        exact .inl (.inr ⟨q, hq, hz⟩)
end Go.Proofs.YtkbfhgcjimfgkaaDoor
set_option linter.unusedSimpArgs false
namespace Go.Proofs.YtkbfhgcjimfgkaaDoor
open Go.RowKit
/-- what would be undone, with one more -/
def pushed (l : List Op) (b : Op) : List Op := if 12 < (l ++ [b]).length then (l ++ [b]).drop 1 else l ++ [b]
theorem undoOk_all {n : Nd} (h : undoOk n = true) : undoFrom (rc n.text) n.undo.reverse = true ∧ n.undo.length ≤ 12 := by
  unfold undoOk at h
  simpa using h
def Tn.pushUndo (t : Tn) (b : Op) : Tn := t.setUndo (pushed t.node.undo b)
/-- the turn of an edit -/
def editT (n : Nd) (o : Op) : Tn := ((⟨n, [], []⟩ : Tn).edited o).pushUndo (invO n.text o)
/-- what an edit is refused with -/
def editE (n : Nd) (o : Op) : Int := if n.ready = false then 12 else if applyE n.text o ≠ 0 then applyE n.text o else if (⟨n, [], []⟩ : Tn).full o = true then 8 else 0
theorem applyE_zero {s : Str} {o : Op} (h : applyE s o = 0) : checkText s = 0 ∧ check o = 0 ∧ sumF o = rc s := by
  unfold applyE at h
  by_cases h1 : checkText s = 0
  · rw [if_neg (by simpa using h1)] at h
    by_cases h2 : check o = 0
    · rw [if_neg (by simpa using h2)] at h
      by_cases h3 : sumF o = rc s
      · exact ⟨h1, h2, h3⟩
      · rw [if_pos h3] at h; exact absurd h (by decide)
    · rw [if_pos h2] at h; exact absurd h h2
  · rw [if_pos h1] at h; exact absurd h h1
theorem editE_zero {n : Nd} {o : Op} (h : editE n o = 0) : n.ready = true ∧ applyE n.text o = 0 ∧ (⟨n, [], []⟩ : Tn).full o = false := by
  unfold editE at h
  cases hr : n.ready with
  | false => rw [if_pos hr] at h; exact absurd h (by decide)
  | true =>
    rw [if_neg (by simp [hr])] at h
    by_cases h1 : applyE n.text o = 0
    · rw [if_neg (by simpa using h1)] at h
      cases h2 : (⟨n, [], []⟩ : Tn).full o with
      | true => rw [if_pos h2] at h; exact absurd h (by decide)
      | false => exact ⟨rfl, h1, rfl⟩
    · rw [if_pos h1] at h; exact absurd h h1
/-- an edited node, all but its undo -/
theorem edited_node (n : Nd) (u : List Op) (o : Op) : ∃ ss, ((⟨{ n with undo := u }, [], []⟩ : Tn).edited o).node = { n with text := applyS n.text o, undo := u, marks := n.marks.map (mvM true o), sides := ss } ∧ ss.length = n.sides.length ∧
    ∀ i (h : i < n.sides.length) (h2 : i < ss.length), ss[i] = if n.sides[i].joined = false then n.sides[i] else sdTold n.sides[i] o := by
  have h1 : ((⟨{ n with undo := u }, [], []⟩ : Tn).edited o).node = _ := forward_node _ o (-1)
  refine ⟨_, h1, forward_len _ o (-1), fun i h h2 => ?_⟩
  have h3 := forward_at (((⟨{ n with undo := u }, [], []⟩ : Tn).setText (applyS n.text o)).move true o) o (-1) i h
  have h4 : ∀ (t : Tn) (hi : i < t.node.sides.length), t.side i = t.node.sides[i] := fun t hi => t.side_get i hi
  rw [h4 _ h2, h4 _ h] at h3
  have h5 : ¬ ((i : Int) = -1) := by omega
  simp only [h5, false_or] at h3
  exact h3
end Go.Proofs.YtkbfhgcjimfgkaaDoor
set_option linter.unusedSimpArgs false
namespace Go.Proofs.YtkbfhgcjimfgkaaDoor
open Go.RowKit
def jf (ep up : Int) : Fr := ⟨2, up, ep, [], noText⟩
theorem jf_ok {ep up : Int} (h1 : 1 ≤ ep) (h2 : ep ≤ 1048576) (h3 : 0 ≤ up) (h4 : up ≤ 1048576) : (jf ep up).check = 0 := by
  have a1 : num up = true := by simp [num]; omega
  have a2 : num ep = true := by simp [num]; omega
  have a3 : 0 < ep := by omega
  have h3 : checkText noText = 0 := by decide
  have h5 : ¬ (ep = 0) := by omega
  simp [Fr.check, jf, checkFrame, a1, a2, check_nil, h3, h5, frameOdd, emptyS_noText]
  exact decide_eq_true (by omega)
/-- the link of who asks its parent -/
def askLk (ep up : Int) : Lk := ⟨ep, 2, [jf ep up], [], 0⟩
def askPk (ep up : Int) : Pkt := ⟨ep, 1, false, 0, jf ep up⟩
theorem ask_link {ep up : Int} (h1 : 1 ≤ ep) (h2 : ep ≤ 1048576) (h3 : 0 ≤ up) (h4 : up ≤ 1048576) :
    (openLk ep).sendE (jf ep up) = 0 ∧ (openLk ep).sendL (jf ep up) = askLk ep up ∧ (openLk ep).sendP (jf ep up) = [askPk ep up] ∧ (askLk ep up).check = 0 := by
  have hj := jf_ok h1 h2 h3 h4
  have eo : openLk ep = ⟨ep, 1, [], [], 0⟩ := by unfold openLk; rw [if_neg (by omega)]
  rw [eo]
  have c0 : (Lk.mk ep 1 [] [] 0).check = 0 := by
    refine lk_make ?_ ?_ ?_ ?_ ?_ ?_ ?_ ?_ ?_ rfl rfl ?_
    all_goals simp only [List.length_nil]
    all_goals omega
  have hE : (Lk.mk ep 1 [] [] 0).sendE (jf ep up) = 0 := by
    unfold Lk.sendE
    rw [c0, if_neg (by simp), if_neg (by simp only; omega), hj, if_neg (by simp), if_neg (by simp only; omega)]
  have hp : (Lk.mk ep 1 [] [] 0).push (jf ep up) = askLk ep up := by
    unfold Lk.push Lk.filled
    simp only [List.nil_append]
    rw [fillL_go (by simp) (by omega), fillL_nil]
    rfl
  refine ⟨hE, ?_, ?_, ?_⟩
  · unfold Lk.sendL; rw [if_pos hE, hp]
  · unfold Lk.sendP
    rw [if_pos hE, hp]
    rfl
  · refine lk_make ?_ ?_ ?_ ?_ ?_ ?_ ?_ ?_ ?_ ?_ rfl ?_
    · show 0 ≤ ep; omega
    · exact h2
    · show (1 : Int) ≤ 2; omega
    · show (2 : Int) ≤ 1048576; omega
    · show (0 : Int) ≤ 0; omega
    · show (0 : Int) ≤ 1048576; omega
    · show 1 ≤ 8; omega
    · show ((1 : Nat) : Int) < 2; omega
    · intro h; exact absurd h (by simp [askLk])
    · unfold frsOk askLk; simp [hj]
    · intro h
      have : ep = 0 := h
      omega
theorem join_plain {N : Tn} {p : Sd} {r : List Sd} (hs : N.node.sides = p :: r) (h1 : 1 ≤ N.node.epoch) (h2 : N.node.epoch ≤ 1048576) (h3 : 0 ≤ N.node.up) (h4 : N.node.up ≤ 1048576) :
    N.join = { node := { N.node with sides := { p with l := askLk N.node.epoch N.node.up } :: r }, posts := N.posts ++ [⟨p.peer, askPk N.node.epoch N.node.up⟩], recs := N.recs } := by
  obtain ⟨k1, k2, k3, -⟩ := ask_link h1 h2 h3 h4
  have hs0 : N.side 0 = p := by unfold Tn.side; rw [hs]; rfl
  have hj : N.joinFr = jf N.node.epoch N.node.up := rfl
  have hR : N.relink.node.sides = { p with l := openLk N.node.epoch } :: r := by
    unfold Tn.relink Tn.setSide
    rw [hs0, hs]; rfl
  have hR0 : N.relink.side 0 = { p with l := openLk N.node.epoch } := by unfold Tn.side; rw [hR]; rfl
  unfold Tn.join Tn.send
  rw [hR0, hj]
  simp only
  rw [if_pos k1, k2, k3]
  unfold Tn.post Tn.setSide Tn.peer
  simp only
  rw [hR]
  rfl
theorem newSd_ok (n : Nd) (p : Int) : sideOk n (newSd p) = true := by
  have h1 : edgeCheck 0 0 [] = 0 := by decide
  have h2 : (Lk.mk 0 1 [] [] 0).check = 0 := by decide
  unfold sideOk newSd
  simp [h1, h2]
theorem askSd_ok (n : Nd) (p : Int) {ep up : Int} (h : (askLk ep up).check = 0) : sideOk n { newSd p with l := askLk ep up } = true := by
  have h1 : edgeCheck 0 0 [] = 0 := by decide
  unfold sideOk newSd
  simp [h1, h]
/-- the node that begins, in plain words -/
theorem begin_plain {t : List Int} {k : Nat} (hk : k < t.length) (ht : checkTree t = 0) {b : Int} (h1 : 1 ≤ b) (h2 : b ≤ 250) {s : Str} (hs : checkText s = 0) (hs0 : 0 < k → emptyS s = true) :
    NdGood t (beginT t (k : Int) b s).node ∧ (beginT t (k : Int) b s).node.text = s ∧ (beginT t (k : Int) b s).node.ready = ((k : Int) == 0) ∧ (beginT t (k : Int) b s).node.epoch = 4096 * b ∧
    (k = 0 → (beginT t (k : Int) b s).posts = []) ∧ (0 < k → (beginT t (k : Int) b s).posts = [⟨t.getD k 0, askPk (4096 * b) 0⟩]) := by
  have hu : undoFrom (rc s) [] = true := rfl
  by_cases h0 : 0 < k
  · have h0' : 0 < (k : Int) := by omega
    have e0 : nbs t (k : Int) = t.getD k 0 :: kidsTo t (k : Int) t.length := by
      unfold nbs nbsAhead
      rw [if_pos h0']; rfl
    have hsd : (beginN t (k : Int) b s).node.sides = newSd (t.getD k 0) :: (kidsTo t (k : Int) t.length).map newSd := by
      show (nbs t (k : Int)).map newSd = _
      rw [e0]; rfl
    have hT : beginT t (k : Int) b s = (beginN t (k : Int) b s).join := by unfold beginT; rw [if_pos h0']
    have hJ := join_plain hsd (show 1 ≤ 4096 * b by omega) (show 4096 * b ≤ 1048576 by omega) (show (0 : Int) ≤ 0 by omega) (show (0 : Int) ≤ 1048576 by omega)
    obtain ⟨-, -, -, hck⟩ := ask_link (ep := 4096 * b) (up := 0) (by omega) (by omega) (by omega) (by omega)
    rw [hT, hJ]
    refine ⟨⟨ht, ?_, ?_, ?_, ?_, ?_, ?_, ?_, hs, ?_, ?_, ?_, ?_, ?_, ?_, ?_⟩, rfl, rfl, rfl, fun h => by omega, fun _ => rfl⟩
    · show 0 ≤ (k : Int); omega
    · show (k : Int) < _; omega
    · show 1 ≤ 4096 * b; omega
    · show 4096 * b < 1048576; omega
    · show (0 : Int) ≤ 0; omega
    · show (0 : Int) ≤ 1048576; omega
    · intro _; rfl
    · show ({ newSd (t.getD k 0) with l := askLk (4096 * b) 0 } :: (kidsTo t (k : Int) t.length).map newSd).length = (nbs t (k : Int)).length
      rw [e0]; simp
    · unfold undoOk
      show (undoFrom (rc s) [].reverse && decide (([] : List Op).length ≤ 12)) = true
      rfl
    · show ([] : List Mk).length ≤ 1; simp
    · intro _
      exact ⟨hs0 h0, rfl, rfl, by show (k : Int) ≠ 0; omega⟩
    · intro i hi
      show (nbs t (k : Int))[i]? = some _ ∧ _
      match i, hi with
      | 0, _ => exact ⟨by rw [e0]; rfl, askSd_ok _ _ hck⟩
      | i + 1, hi =>
        have hi2 : i < (kidsTo t (k : Int) t.length).length := by
          have : i + 1 < ({ newSd (t.getD k 0) with l := askLk (4096 * b) 0 } :: (kidsTo t (k : Int) t.length).map newSd).length := hi
          simpa using this
        have hg : ({ newSd (t.getD k 0) with l := askLk (4096 * b) 0 } :: (kidsTo t (k : Int) t.length).map newSd)[i + 1] = newSd (kidsTo t (k : Int) t.length)[i] := by simp
        refine ⟨?_, ?_⟩
        · rw [e0, List.getElem?_cons_succ, List.getElem?_eq_getElem hi2]
          exact congrArg (fun x => some (Sd.peer x)) hg.symm
        · exact (congrArg (sideOk _) hg).trans (newSd_ok _ _)
    · intro _ sd hsd0
      have : some ({ newSd (t.getD k 0) with l := askLk (4096 * b) 0 } : Sd) = some sd := hsd0
      cases this
      show false = ((k : Int) == 0)
      simp; omega
    · intro m hm
      cases hm
  · have hk0 : k = 0 := by omega
    subst hk0
    have hT : beginT t ((0 : Nat) : Int) b s = beginN t ((0 : Nat) : Int) b s := by unfold beginT; rw [if_neg (by simp)]
    rw [hT]
    refine ⟨⟨ht, ?_, ?_, ?_, ?_, ?_, ?_, ?_, hs, ?_, ?_, ?_, ?_, ?_, ?_, ?_⟩, rfl, rfl, rfl, fun _ => rfl, fun h => by omega⟩
    · show 0 ≤ ((0 : Nat) : Int); omega
    · show ((0 : Nat) : Int) < _; omega
    · show 1 ≤ 4096 * b; omega
    · show 4096 * b < 1048576; omega
    · show (0 : Int) ≤ 0; omega
    · show (0 : Int) ≤ 1048576; omega
    · intro _; rfl
    · show ((nbs t ((0 : Nat) : Int)).map newSd).length = _
      rw [List.length_map]; rfl
    · unfold undoOk
      show (undoFrom (rc s) [].reverse && decide (([] : List Op).length ≤ 12)) = true
      rfl
    · show ([] : List Mk).length ≤ 1; simp
    · intro h
      have : ((((0 : Nat) : Int) == 0) : Bool) = false := h
      simp at this
    · intro i hi
      have hi2 : i < (nbs t ((0 : Nat) : Int)).length := by
        have : i < ((nbs t ((0 : Nat) : Int)).map newSd).length := hi
        simpa using this
      have hg : ((nbs t ((0 : Nat) : Int)).map newSd)[i] = newSd (nbs t ((0 : Nat) : Int))[i] := by simp
      refine ⟨?_, (congrArg (sideOk _) hg).trans (newSd_ok _ _)⟩
      show (nbs t ((0 : Nat) : Int))[i]? = _
      rw [List.getElem?_eq_getElem hi2]
      exact congrArg (fun x => some (Sd.peer x)) hg.symm
    · intro h
      have : (0 : Int) < ((0 : Nat) : Int) := h
      omega
    · intro m hm
      cases hm
end Go.Proofs.YtkbfhgcjimfgkaaDoor
set_option linter.unusedSimpArgs false
namespace Go.Proofs.YtkbfhgcjimfgkaaDoor
open Go.RowKit
/-- block b is a mason by whom parts stand, the last one first -/
structure Ms (B b : Nat) (R : List P) (v : Value) (w : World) : Prop where
  bag : Bag 91 B b v [.int .i64 0] (R.map P.part).reverse w
  can : Can R
theorem P.mild {p : P} (hp : ∀ l, p = .i l → ∀ r ∈ l, Uni.vr r) (hz : p.z ≤ 100000) : Mild p.part := by
  cases p with
  | k n => simp only [P.z] at hz; exact ⟨by simp [P.part], by simp only [P.part]; omega, by simp only [P.part, noText_size]; omega⟩
  | d n => simp only [P.z] at hz; exact ⟨by simp [P.part], by simp only [P.part]; omega, by simp only [P.part, noText_size]; omega⟩
  | i t =>
    simp only [P.z] at hz
    have := enc_size t (hp t rfl)
    exact ⟨by simp [P.part], by simp only [P.part]; omega, by simp only [P.part]; omega⟩
theorem madd (B b : Nat) (R : List P) (v : Value) (p : P) (w : World) (h : Ms B b R v w) (hs : FS R + TS R ≤ 100000) (hp : ∀ l, p = .i l → ∀ r ∈ l, Uni.vr r) (hz : p.z ≤ 100000) :
    Calls Tryd.prog 32 #[.pointer (some ⟨b, 0, none⟩), .agg #[.int .i64 p.part.kind, .int .i64 p.part.n, .string p.part.text]] w fun e w' =>
      e = .returned (.tuple #[]) ∧ (∃ v', Ms B b (addP R p) v' w') ∧ Below B w w' := by
  have hbw := h.bag.base
  have hbl := h.bag.lt
  refine (add_any B b 0 p.part (P.mild hp hz) (R.map P.part) v w (fun q hq => (can_mild h.can hs q hq).1) (by have := can_len h.can hs; omega) h.bag).mono ?_
  rintro e w' ⟨v', rfl, hb, ht, -⟩
  rw [addR_part p hp R h.can.all] at hb
  exact ⟨rfl, ⟨v', hb, addP_can p hp R h.can⟩, ht.toBelow (by omega) (fun k hk => h.bag.sB k hk)⟩
theorem Ms.new (w : World) : Ms w.heap.size w.heap.size [] (.slice none 0 0) (w.alloc (.cells #[.slice none 0 0, .int .i64 0] 91)) :=
  ⟨⟨Nat.le_refl _, Blk.new _ _, World.ownsRow_nil _ _ _ _, by simp [Value.ownBlock]⟩, trivial⟩
/-- what a mason's parts read as -/
theorem Ms.rd {B b : Nat} {R : List P} {v : Value} {w : World} (h : Ms B b R v w) (hs : FS R + TS R ≤ 100000) : ∃ a c, v = .slice a (R.reverse.map P.part).length c ∧ RdS (fun z => B ≤ z ∧ z < w.heap.size) w (R.reverse.map P.part) a (R.reverse.map P.part).length c := by
  have := h.bag.rd (can_fit h.can hs) (A := fun z => B ≤ z ∧ z < w.heap.size) (fun g hg => h.bag.own.lt g hg)
  rw [← List.map_reverse] at this
  exact this
def hereO (n k : Nat) (t : List Nat) : Op := opOfP [.k k, .i t, .k (n - k)]
set_option maxRecDepth 100000 in
set_option maxHeartbeats 2000000 in
theorem here_any (n k : Nat) (t : List Nat) (w : World) (hv : ∀ r ∈ t, Uni.vr r) (hk : k ≤ n) (hn : n ≤ 4000) (ht : t.length ≤ 4000) :
    Calls Tryd.prog 15 #[.int .i64 (n : Int), .int .i64 (k : Int), .string (Uni.enc t)] w fun e w' => ∃ a c, e = .returned (.slice a (hereO n k t).length c) ∧
      RdS (fun z => w.heap.size ≤ z ∧ z < w'.heap.size) w' (hereO n k t) a (hereO n k t).length c ∧ Below w.heap.size w w' := by
  have hF : FS (build [.k k, .i t, .k (n - k)]) = n := by rw [build_FS]; simp only [FS, P.F]; omega
  have hT : TS (build [.k k, .i t, .k (n - k)]) = n + t.length := by rw [build_TS]; simp only [TS, P.T]; omega
  have M1 := Lib.hid (fun W v (h : Ms w.heap.size w.heap.size [] v W) => madd _ _ _ v (.k k) W h (by simp [FS, TS]) (fun l h => by cases h) (by simp only [P.z]; omega))
  have M2 := Lib.hid (fun W v (h : Ms w.heap.size w.heap.size (addP [] (.k k)) v W) => madd _ _ _ v (.i t) W h (by rw [FS_addP, TS_addP]; simp only [FS, TS, P.F, P.T]; omega) (fun l h => by cases h; exact hv) (by simp only [P.z]; omega))
  have M3 := Lib.hid (fun W v (h : Ms w.heap.size w.heap.size (addP (addP [] (.k k)) (.i t)) v W) => madd _ _ _ v (.k (n - k)) W h (by rw [FS_addP, TS_addP, FS_addP, TS_addP]; simp only [FS, TS, P.F, P.T]; omega) (fun l h => by cases h) (by simp only [P.z]; omega))
  simp only [P.part] at M1 M2 M3
  have iy : IntKind.i64.wrap ((n : Int) - (k : Int)) = ((n - k : Nat) : Int) := by rw [IntWalk.i64_in _ (by omega)]; omega
  have Hend : Hid (∀ W v, Ms w.heap.size w.heap.size (addP (addP (addP [] (.k k)) (.i t)) (.k (n - k))) v W → ∃ a c, v = .slice a (hereO n k t).length c ∧ RdS (fun z => w.heap.size ≤ z ∧ z < W.heap.size) W (hereO n k t) a (hereO n k t).length c) := by
    intro W v h
    have e : addP (addP (addP [] (.k k)) (.i t)) (.k (n - k)) = build [.k k, .i t, .k (n - k)] := rfl
    rw [e] at h
    exact Ms.rd h (by omega)
  generalize hereO n k t = H at *
  generalize H.length = lh at *
  clear hF hT
  go_enter Tryd.func15, Tryd.ntmps15
  go_wp2_with fail
  refine abs_run (fun W => (∃ v, Ms w.heap.size w.heap.size [] v W) ∧ Below w.heap.size w W) ⟨⟨_, Ms.new w⟩, (Below.refl _ _).alloc (Nat.le_refl _) _⟩ ?_
  rintro W0 ⟨⟨v0, m0⟩, b0⟩
  refine (M1.out _ _ m0).mono ?_
  rintro e w1 ⟨rfl, m1, b1⟩
  have m1 := Lib.hid m1
  have b1 := Lib.hid (b0.trans b1)
  clear m0 b0 M1
  go_wp2_with fail
  obtain ⟨v1, m1⟩ := m1.out
  refine (M2.out _ _ m1).mono ?_
  rintro e w2 ⟨rfl, m2, b2⟩
  have m2 := Lib.hid m2
  have b2 := Lib.hid (b1.out.trans b2)
  clear m1 b1 M2
  go_wp2_with fail
  obtain ⟨v2, m2⟩ := m2.out
  refine (M3.out _ _ m2).mono ?_
  rintro e w3 ⟨rfl, ⟨v3, m3⟩, b3⟩
  have b3 := Lib.hid (b2.out.trans b3)
  have c0 : w3.cell? ⟨w.heap.size, 0, none⟩ = some v3 := (show Blk w.heap.size _ w3 from m3.bag.blk).cell 0
  obtain ⟨a3, c3, rfl, r3⟩ := Hend.out _ _ m3
  have r3 := Lib.hid r3
  clear m3 m2 b2 M3 Hend
  go_wp2_with fail
  go_ret
  exact ⟨a3, c3, rfl, r3.out, b3.out⟩
end Go.Proofs.YtkbfhgcjimfgkaaDoor
set_option linter.unusedSimpArgs false
namespace Go.Proofs.YtkbfhgcjimfgkaaDoor
open Go.RowKit
/-- the parts of here -/
theorem here_build (k m : Nat) (x : List Nat) (hx : x ≠ []) : build [.k k, .i x, .k m] = kp m ++ .i x :: kp k := by
  have h1 := addP_kp 0 k
  rw [Nat.zero_add, kp_zero] at h1
  have h2 : addP (kp k) (.i x) = .i x :: kp k := by
    unfold kp; split <;> simp [addP, hx]
  have h3 : addP (.i x :: kp k) (.k m) = kp m ++ .i x :: kp k := by
    by_cases hm : m = 0
    · subst hm; rfl
    · rw [kp_pos hm]; simp [addP, hm]
  show addP (addP (addP [] (.k k)) (.i x)) (.k m) = _
  rw [h1, h2, h3]
theorem here_laws (n k : Nat) (x : List Nat) (hk : k ≤ n) (hn : n ≤ 2000) (hx : x ≠ []) (hv : ∀ r ∈ x, Uni.vr r) (hl : x.length ≤ 1000) :
    check (hereO n k x) = 0 ∧ sumF (hereO n k x) = n ∧ sumT (hereO n k x) = n + x.length ∧ opP (hereO n k x) = kp k ++ .i x :: kp (n - k) := by
  have hc : Can (build [.k k, .i x, .k (n - k)]) := foldl_can _ _ trivial (fun p hp t ht => by
    subst ht
    simp only [List.mem_cons, List.not_mem_nil, or_false] at hp
    rcases hp with h | h | h
    · cases h
    · cases h; exact hv
    · cases h)
  have hF : FS (build [.k k, .i x, .k (n - k)]) = n := by rw [build_FS]; simp only [FS, P.F]; omega
  have hT : TS (build [.k k, .i x, .k (n - k)]) = n + x.length := by rw [build_TS]; simp only [TS, P.T]; omega
  have hI := opIs_of hc (by omega) (by omega)
  have h1 := hI.check
  have h2 := hI.f
  have h3 := hI.t
  have h4 := hI.opP
  rw [FS_rev, hF] at h2
  rw [TS_rev, hT] at h3
  unfold hereO opOfP
  refine ⟨h1, h2, by rw [h3]; omega, ?_⟩
  rw [h4, here_build _ _ _ hx, List.reverse_append, List.reverse_cons, kp_rev', kp_rev']
  simp
where kp_rev' (n : Nat) : (kp n).reverse = kp n := by unfold kp; split <;> rfl
end Go.Proofs.YtkbfhgcjimfgkaaDoor
set_option linter.unusedSimpArgs false
namespace Go.Proofs.YtkbfhgcjimfgkaaDoor
open Go.RowKit
/-- so many letters -/
def asT (k : Nat) : Str := Uni.enc (List.replicate k 97)
theorem as_vr (k : Nat) : ∀ r ∈ List.replicate k 97, Uni.vr r := fun r hr => by
  rw [(List.mem_replicate.1 hr).2]; decide
theorem as_laws (k : Nat) (hk : k ≤ 4000) : checkText (asT k) = 0 ∧ rc (asT k) = k ∧ (asT k).size ≤ 16000 := by
  have h1 := rc_enc _ (as_vr k)
  have h2 := enc_size _ (as_vr k)
  rw [List.length_replicate] at h1 h2
  refine ⟨checkText_of (valid_enc _ (as_vr k)) (by rw [show asT k = Uni.enc (List.replicate k 97) from rfl, h1]; omega), h1, by unfold asT; omega⟩
theorem as_bytes : ∀ k : Nat, Uni.encL (List.replicate k 97) = List.replicate k 97
  | 0 => rfl
  | k + 1 => by
    have h := as_bytes k
    rw [List.replicate_succ, List.replicate_succ, ← h]
    have e : Uni.encR 97 = [97] := by decide
    show Uni.encR 97 ++ Uni.encL (List.replicate k 97) = _
    rw [e]; rfl
theorem as_nums (k : Nat) : strOfNums (List.replicate k 97) = asT k := by
  unfold strOfNums asT Uni.enc
  rw [as_bytes, List.map_replicate]
  rfl
/-- cells of so many letters -/
def AllA (g k : Nat) (W : World) : Prop := g < W.heap.size ∧ ∀ i, i < k → W.cell? ⟨g, i, none⟩ = some (.int .u8 97)
theorem AllA.go {g k : Nat} {W W' : World} (h : AllA g k W) (hb : Below W.heap.size W W') : AllA g k W' := ⟨Nat.lt_of_lt_of_le h.1 hb.size, fun i hi => (hb.cell (p := ⟨g, i, none⟩) h.1).trans (h.2 i hi)⟩
theorem AllA.conv {g k c m : Nat} {W : World} (h : AllA g k W) (hm : m ≤ k) : (convert 50 9 (.slice (some ⟨g, 0, none⟩) m c)).run Tryd.prog W = .ok (.string (asT m)) W := by
  have := run_convert_bytes_arg (P := Tryd.prog) W 50 5 Tryd.underlying50 Tryd.underlying5 g 0 m c (List.replicate m 97) (by simp) (fun i hi => by
    rw [Nat.zero_add, h.2 i (by omega)]
    simp [List.getD, hi]) _ Tryd.underlying9
  rw [this, as_nums]
/-- the operation: something is taken away, or typed -/
def fullO (k m : Nat) (take : Bool) : Op := if take then [⟨1, (k : Int) - m, noText⟩, ⟨3, m, noText⟩] else hereO k k (List.replicate m 97)
theorem partOk_N {k n : Int} (hk : k = 1 ∨ k = 3) (h1 : 1 ≤ n) (h2 : n ≤ 4000) : partOk ⟨k, n, noText⟩ = 0 := by
  unfold partOk
  have h3 : ¬ (n < 1 ∨ 4000 < n) := by omega
  rcases hk with rfl | rfl <;> simp [h3, emptyS_noText]
theorem isIns_opP {o : Op} (h : check o = 0) : o.any isIns = (opP o).any fun p => match p with | .i _ => true | _ => false := by
  have e := (opIs h).eq
  conv => lhs; rw [e]
  rw [List.any_map]
  congr 1
  funext p
  cases p <;> rfl
theorem fullO_laws (k m : Nat) (take : Bool) (h1 : 295 ≤ k) (h2 : k ≤ 304) (h3 : 1 ≤ m) (h4 : m ≤ 9) : check (fullO k m take) = 0 ∧ sumF (fullO k m take) = k ∧ (if take = true then True else sumT (fullO k m take) = k + m) ∧ (fullO k m take).any isIns = !take := by
  cases take with
  | false =>
    have hne : List.replicate m 97 ≠ [] := by intro h; have := congrArg List.length h; simp at this; omega
    obtain ⟨o1, o2, o3, o4⟩ := here_laws k k (List.replicate m 97) (Nat.le_refl _) (by omega) hne (as_vr m) (by simp; omega)
    rw [List.length_replicate] at o3
    refine ⟨o1, o2, by simpa [fullO] using o3, ?_⟩
    show (hereO k k (List.replicate m 97)).any isIns = true
    rw [isIns_opP o1, o4]
    simp
  | true =>
    have p1 := partOk_N (k := 1) (n := (k : Int) - m) (.inl rfl) (by omega) (by omega)
    have p2 := partOk_N (k := 3) (n := m) (.inr rfl) (by omega) (by omega)
    refine ⟨?_, ?_, trivial, rfl⟩
    · show check [⟨1, (k : Int) - m, noText⟩, ⟨3, m, noText⟩] = 0
      unfold check
      have hc : checkFrom none [⟨1, (k : Int) - m, noText⟩, ⟨3, m, noText⟩] = 0 := by
        simp [checkFrom, p1, p2, clash]
      have hF : sumF [⟨1, (k : Int) - m, noText⟩, ⟨3, m, noText⟩] = k := by simp [sumF, lenF]
      have hT : sumT [⟨1, (k : Int) - m, noText⟩, ⟨3, m, noText⟩] = k - m := by simp [sumT, lenT]
      rw [if_neg (by simp), if_neg (by simp [hc]), if_neg (by omega)]
    · show sumF [⟨1, (k : Int) - m, noText⟩, ⟨3, m, noText⟩] = k
      simp [sumF, lenF]
/-- the root of a tree of its own -/
def lone (s : Str) : Nd := ⟨0, 4096, 0, true, s, [], [], []⟩
theorem lone_begin (s : Str) : beginT [-1] ((0 : Nat) : Int) 1 s = ⟨lone s, [], []⟩ := by
  have hn : nbs [-1] ((0 : Nat) : Int) = [] := by decide
  unfold beginT
  rw [if_neg (by simp)]
  unfold beginN lone
  rw [hn]
  rfl
theorem lone_good {s : Str} (hs : checkText s = 0) : NdGood [-1] (lone s) ∧ NdB 0 (lone s) := by
  have h := (begin_plain (t := [-1]) (k := 0) (by simp) (by decide) (b := 1) (by omega) (by omega) hs (fun h => by omega)).1
  rw [lone_begin] at h
  exact ⟨h, fun s hs => by cases hs⟩
theorem lone_beginE {s : Str} (hs : checkText s = 0) : beginE [-1] ((0 : Nat) : Int) 1 s = 0 := by
  unfold beginE
  rw [if_neg (by decide), if_neg (by decide), if_neg (by decide), if_neg (by simpa using hs), if_neg (by rintro ⟨h, -⟩; omega)]
theorem lone_full (s : Str) (o : Op) : (⟨lone s, [], []⟩ : Tn).full o = (o.any isIns && decide (300 < sumT o)) := by
  unfold Tn.full
  show (_ || ([] : List Sd).any isFull) = _
  simp
theorem lone_editE {s : Str} {o : Op} (hs : checkText s = 0) (h1 : check o = 0) (h2 : sumF o = rc s) : editE (lone s) o = if (o.any isIns && decide (300 < sumT o)) = true then 8 else 0 := by
  unfold editE
  have hr : (lone s).ready = true := rfl
  have hA : applyE (lone s).text o = 0 := (apply_good hs h1 h2).1
  rw [if_neg (by simp [hr]), if_neg (by simp [hA]), lone_full]
theorem full_law (k m : Nat) (take : Bool) (h1 : 295 ≤ k) (h2 : k ≤ 304) (h3 : 1 ≤ m) (h4 : m ≤ 9) : editE (lone (asT k)) (fullO k m take) = if take = true ∨ k + m ≤ 300 then 0 else 8 := by
  obtain ⟨a1, a2, -⟩ := as_laws k (by omega)
  obtain ⟨o1, o2, o3, o4⟩ := fullO_laws k m take h1 h2 h3 h4
  rw [lone_editE a1 o1 (by omega), o4]
  cases take with
  | true => simp
  | false =>
    simp only [Bool.false_eq_true, if_false] at o3
    rw [o3]
    by_cases h : k + m ≤ 300
    · have d : decide ((300 : Int) < (k : Int) + (m : Int)) = false := by simp; omega
      rw [d]; simp [h]
    · have d : decide ((300 : Int) < (k : Int) + (m : Int)) = true := by simp; omega
      rw [d]; simp [h]
end Go.Proofs.YtkbfhgcjimfgkaaDoor
set_option linter.unusedSimpArgs false
namespace Go.Proofs.YtkbfhgcjimfgkaaDoor
open Go.RowKit
set_option maxRecDepth 100000 in
set_option maxHeartbeats 4000000 in
theorem invert_bad (s : Str) (o : Op) (a : Option Addr) (n c : Nat) (w : World) (hg : Good w) (hr : RdS (· < w.heap.size) w o a n c) (hs : s.size ≤ 70368744177664) (hE : applyE s o ≠ 0) :
    Calls Tryd.prog 56 #[.string s, .slice a n c] w fun e w' => e = .returned (.tuple #[.slice none 0 0, .int .i64 (applyE s o)]) ∧ Below w.heap.size w w' := by
  have HA := Lib.hid (apply_any s o a n c w hg hr hs)
  generalize applyS s o = ss at *
  generalize applyE s o = ee at *
  clear hr hg hs
  go_enter Tryd.func56, Tryd.ntmps56
  go_wp2_with fail
  refine HA.out.mono ?_
  rintro e w2 ⟨rfl, hb2⟩
  clear HA
  have HB := Lib.hid hb2
  clear hb2
  go_wp2_with fail
  go_ret2
  exact ⟨rfl, HB.out⟩
set_option maxRecDepth 100000 in
set_option maxHeartbeats 8000000 in
theorem ndEdit_away (base g : Nat) (t : Tn) (vs : Nat → Value) (o : Op) (oa : Option Addr) (oc : Nat) (w : World) (h : WkM base g t vs w) (hy : t.node.ready = false) :
    Calls Tryd.prog 34 #[.pointer (some ⟨g, 0, none⟩), .slice oa o.length oc] w fun e w' => e = .returned (.tuple #[.slice none 0 0, .int .i64 12]) ∧ Below w.heap.size w w' := by
  have HNP := Lib.hid (fun W => node_ptr g W)
  have hgl := h.lt
  obtain ⟨-, -, -, p3, -, -, -, -, -, -⟩ := blk10_cells h.box
  rw [hy] at p3
  clear h hy
  go_enter Tryd.func34, Tryd.ntmps34
  go_wp2_with fail
  refine (HNP.out w).mono ?_
  rintro e w1 ⟨rfl, rfl⟩
  go_wp2_with fail
  go_ret2
  exact ⟨rfl, Below.refl _ _⟩
set_option maxRecDepth 100000 in
set_option maxHeartbeats 8000000 in
theorem ndEdit_bad (base g : Nat) (t : Tn) (vs : Nat → Value) (o : Op) (oa : Option Addr) (oc : Nat) (w : World) (hg : Good w) (h : WkM base g t vs w) (hr : RdS (NM g vs w) w o oa o.length oc) (hy : t.node.ready = true) (h0 : checkText t.node.text = 0) (hE : applyE t.node.text o ≠ 0) :
    Calls Tryd.prog 34 #[.pointer (some ⟨g, 0, none⟩), .slice oa o.length oc] w fun e w' => e = .returned (.tuple #[.slice none 0 0, .int .i64 (applyE t.node.text o)]) ∧ Below w.heap.size w w' := by
  have HI := Lib.hid (invert_bad t.node.text o oa _ oc w hg (hr.mono fun z hz => ⟨hz.1, rfl⟩) (text_small h0) hE)
  have HNP := Lib.hid (fun W => node_ptr g W)
  have hgl := h.lt
  obtain ⟨-, -, -, p3, p4, -, -, -, -, -⟩ := blk10_cells h.box
  rw [hy] at p3
  generalize applyE t.node.text o = ee at *
  clear h hy hg hr h0
  go_enter Tryd.func34, Tryd.ntmps34
  go_wp2_with fail
  refine (HNP.out w).mono ?_
  rintro e w1 ⟨rfl, rfl⟩
  go_wp2_with fail
  refine HI.out.mono ?_
  rintro e w2 ⟨rfl, hb⟩
  have HB := Lib.hid hb
  clear hb HI
  go_wp2_with fail
  go_ret2
  exact ⟨rfl, HB.out⟩
end Go.Proofs.YtkbfhgcjimfgkaaDoor
set_option linter.unusedSimpArgs false
namespace Go.Proofs.YtkbfhgcjimfgkaaDoor
open Go.RowKit
theorem sd_short {n : Nd} {s : Sd} (h : sideOk n s = true) (hq : s.l.queue.length ≤ 1048576) : s.short := by
  unfold sideOk at h
  by_cases h1 : edgeCheck s.e.sent s.e.heard s.e.pending = 0
  · rw [if_neg (by simpa using h1)] at h
    by_cases h2 : s.l.check = 0
    · obtain ⟨-, e2, -, -, e3, e4⟩ := edgeCheck_all h1
      obtain ⟨-, -, -, -, -, -, l1, -, -, l2, l3, -⟩ := lk_zero h2
      refine ⟨fun o ho => ?_, by omega, fun f hf => ?_, by omega, fun f hf => ?_, hq⟩
      · have := (check_zero (e4 o ho)).1; omega
      · have := frame_ops l2 f hf; omega
      · have := frame_ops l3 f hf; omega
    · rw [if_pos h2] at h; cases h
  · rw [if_pos h1] at h; cases h
/-- queues that are not too long -/
def NdQ (n : Nd) : Prop := ∀ s ∈ n.sides, s.l.queue.length ≤ 1000000
/-- a turn of a node has begun -/
def BegunP (n : Nd) (w : World) (e : Ending) (w' : World) : Prop := ∃ g vs, e = .returned (.tuple #[.pointer (some ⟨g, 0, none⟩), .int .i64 0]) ∧ WkM w.heap.size g ⟨n, [], []⟩ vs w' ∧ Below w.heap.size w w'
theorem begun {n : Nd} {w w4 W : World} {S1 S2 g : Nat} {v0 v1 v2 : Value} (hb : Blk g (.cells #[.int .i64 n.me, .int .i64 n.epoch, .int .i64 n.up, .bool n.ready, .string n.text, v0, v1, v2, .slice none 0 0, .slice none 0 0] 82 (0, 0)) W)
    (hg : g = w4.heap.size) (h1 : w.heap.size ≤ S1) (h2 : S1 ≤ S2) (h3 : S2 ≤ w4.heap.size) (hB : Below w4.heap.size w4 W) (o2 : OwnO (fun z => z < w.heap.size ∨ S1 ≤ z) w.heap.size v2 n.marks w4) (o0 : OwnO (fun z => z < S1 ∨ S2 ≤ z) S1 v0 n.sides w4) (o1 : OwnO (fun z => z < S2) S2 v1 n.undo w4) (l2 : ∀ k, v2.ownBlock = some k → k < S1) (l0 : ∀ k, v0.ownBlock = some k → k < S2) (hf : n.fits) (hw : 2 ≤ w.heap.size) :
    WkM w.heap.size g ⟨n, [], []⟩ (fun j => match j with | 0 => v0 | 1 => v1 | 2 => v2 | _ => .slice none 0 0) W := by
  have r0 := o0.rowlt
  have r1 := o1.rowlt
  have r2 := o2.rowlt
  have hX : ∀ z, WX w.heap.size g (fun j => match j with | 0 => v0 | 1 => v1 | 2 => v2 | _ => .slice none 0 0) z → z < w.heap.size ∨ z = g ∨ v0.ownBlock = some z ∨ v1.ownBlock = some z ∨ v2.ownBlock = some z := by
    rintro z (h | h | ⟨j, hj, h⟩)
    · exact .inl h
    · exact .inr (.inl h)
    · match j, hj, h with
      | 0, _, h => exact .inr (.inr (.inl h))
      | 1, _, h => exact .inr (.inr (.inr (.inl h)))
      | 2, _, h => exact .inr (.inr (.inr (.inr h)))
      | 3, _, h => cases h
      | 4, _, h => cases h
  have hk : ∀ k, k < w4.heap.size → W.heap[k]? = w4.heap[k]? := fun k hk => hB.block k hk
  have b0 : rowOk w.heap.size (WX w.heap.size g (fun j => match j with | 0 => v0 | 1 => v1 | 2 => v2 | _ => .slice none 0 0)) ⟨n, [], []⟩ 0 v0 W := rowOk.keep (j := 0) (X := fun z => z < S1 ∨ S2 ≤ z) (o0.low h1) hB.size (fun k hk' _ => hk k hk') (fun k hk' hx => by
    rcases hX k hx with h | h | h | h | h
    · exact .inl (.inl (by omega))
    · omega
    · exact .inr h
    · exact .inl (.inr (r1 k h).1)
    · exact .inl (.inl (l2 k h)))
  have b1 : rowOk w.heap.size (WX w.heap.size g (fun j => match j with | 0 => v0 | 1 => v1 | 2 => v2 | _ => .slice none 0 0)) ⟨n, [], []⟩ 1 v1 W := rowOk.keep (j := 1) (X := fun z => z < S2) (o1.low (Nat.le_trans h1 h2)) hB.size (fun k hk' _ => hk k hk') (fun k hk' hx => by
    rcases hX k hx with h | h | h | h | h
    · exact .inl (show k < S2 by omega)
    · omega
    · exact .inl (l0 k h)
    · exact .inr h
    · exact .inl (show k < S2 from Nat.lt_of_lt_of_le (l2 k h) h2))
  have b2 : rowOk w.heap.size (WX w.heap.size g (fun j => match j with | 0 => v0 | 1 => v1 | 2 => v2 | _ => .slice none 0 0)) ⟨n, [], []⟩ 2 v2 W := rowOk.keep (j := 2) (X := fun z => z < w.heap.size ∨ S1 ≤ z) o2 hB.size (fun k hk' _ => hk k hk') (fun k hk' hx => by
    rcases hX k hx with h | h | h | h | h
    · exact .inl (.inl h)
    · omega
    · exact .inl (.inr (r0 k h).1)
    · exact .inl (.inr (Nat.le_trans h2 (r1 k h).1))
    · exact .inr h)
  refine ⟨hb, fun j hj => ?_, by omega, fun i hi z hz => ?_, fun i j hi hj hij z hz e => ?_, hf, hw⟩
  · match j, hj with
    | 0, _ => exact b0
    | 1, _ => exact b1
    | 2, _ => exact b2
    | 3, _ => exact OwnO.nil
    | 4, _ => exact OwnO.nil
  · match i, hi, hz with
    | 0, _, hz => have := (r0 z hz).2; omega
    | 1, _, hz => have := (r1 z hz).2; omega
    | 2, _, hz => have := (r2 z hz).2; omega
    | 3, _, hz => cases hz
    | 4, _, hz => cases hz
  · match i, j, hi, hj, hij, hz, e with
    | 0, 1, _, _, _, hz, e => have := l0 z hz; have := (r1 z e).1; omega
    | 0, 2, _, _, _, hz, e => have := l2 z e; have := (r0 z hz).1; omega
    | 1, 0, _, _, _, hz, e => have := l0 z e; have := (r1 z hz).1; omega
    | 1, 2, _, _, _, hz, e => have := l2 z e; have := (r1 z hz).1; omega
    | 2, 0, _, _, _, hz, e => have := l2 z hz; have := (r0 z e).1; omega
    | 2, 1, _, _, _, hz, e => have := l2 z hz; have := (r1 z e).1; omega
    | 3, _, _, _, _, hz, _ => cases hz
    | 4, _, _, _, _, hz, _ => cases hz
    | _, 3, _, _, _, _, e => cases e
    | _, 4, _, _, _, _, e => cases e
    | 0, 0, _, _, hij, _, _ => exact absurd rfl hij
    | 1, 1, _, _, hij, _, _ => exact absurd rfl hij
    | 2, 2, _, _, hij, _, _ => exact absurd rfl hij
    | i + 5, _, hi, _, _, _, _ => omega
    | _, j + 5, _, hj, _, _, _ => omega
set_option maxRecDepth 100000 in
set_option maxHeartbeats 4000000 in
theorem ndBegin_good (t : List Int) (ta : Option Addr) (tn tc : Nat) (n : Nd) (a : Option Addr) (c : Nat) (ua : Option Addr) (uc : Nat) (ma : Option Addr) (mc : Nat) (w : World) (hg : Good w) (ht : RdS (· < w.heap.size) w t ta tn tc)
    (h1 : RdS (· < w.heap.size) w n.sides a n.sides.length c) (h2 : RdS (· < w.heap.size) w n.undo ua n.undo.length uc) (h3 : RdS (· < w.heap.size) w n.marks ma n.marks.length mc) (hf : n.fits) (hG : NdGood t n) (hQ : NdQ n) :
    Calls Tryd.prog 33 #[.slice ta tn tc, .agg #[.int .i64 n.me, .int .i64 n.epoch, .int .i64 n.up, .bool n.ready, .string n.text, .slice a n.sides.length c, .slice ua n.undo.length uc, .slice ma n.marks.length mc]] w (BegunP n w) := by
  have HC := Lib.hid (fun W (hW : Below w.heap.size w W) => ndCheck_good t ta tn tc n a c ua uc ma mc W (hg.go hW) (ht.go hW) (h1.go hW) (h2.go hW) (h3.go hW) hf hG)
  have hsh : ∀ s ∈ n.sides, s.short := fun s hs => by
    obtain ⟨i, hi, rfl⟩ := List.mem_iff_getElem.1 hs
    exact sd_short (hG.side i hi).2 (by have := hQ _ hs; omega)
  have hsl : n.sides.length ≤ 1000 := by
    have h1 := hG.len
    have h2 := nbs_len t n.me
    have h3 : t.length ≤ 7 := by
      have g1 := hG.tree
      unfold checkTree at g1
      by_cases h : t.length < 1 ∨ 7 < t.length
      · rw [if_pos h] at g1; exact absurd g1 (by decide)
      · omega
    omega
  have HO := Lib.hid (fun W (hW : Below w.heap.size w W) => ndOwn_any n a c ua uc ma mc W (h1.go hW) (h2.go hW) (h3.go hW) (fun o ho => by have := (check_zero (hG.undos.2 o ho)).1; omega) hsh hsl (by have := hG.undos.1; omega) (by have := hG.marks1; omega))
  have hg2 := Lib.hid hg.size
  have Hf := Lib.hid hf
  have HP : Hid (∀ g vs W, WkM w.heap.size g ⟨n, [], []⟩ vs W → Below w.heap.size w W → BegunP n w (.returned (.tuple #[.pointer (some ⟨g, 0, none⟩), .int .i64 0])) W) := fun g vs W h1 h2 => ⟨g, vs, rfl, h1, h2⟩
  generalize BegunP n w = RP at *
  clear hg ht h1 h2 h3 hf hG hQ hsh hsl
  go_enter Tryd.func33, Tryd.ntmps33
  go_wp2_with fail
  refine abs_run (fun W => Below w.heap.size w W ∧ Blk w.heap.size (.cells #[.int .i64 n.me, .int .i64 n.epoch, .int .i64 n.up, .bool n.ready, .string n.text, .slice a n.sides.length c, .slice ua n.undo.length uc, .slice ma n.marks.length mc] 31 (0, 0)) W) ⟨(Below.refl _ _).alloc (Nat.le_refl _) _, Blk.new w _⟩ ?_
  rintro w1 ⟨b1, x1⟩
  have B1 := Lib.hid b1
  refine (HC.out _ b1).mono ?_
  rintro e w2 ⟨rfl, b2⟩
  have B2 := Lib.hid (up b1 b2)
  have X2 := Lib.hid (x1.go b2)
  obtain ⟨p0, p1, p2, p3, p4, p5, p6, p7⟩ := blk8_cells X2.out
  clear b1 b2 x1 HC B1
  go_wp2_with fail
  refine (HO.out _ B2.out).mono ?_
  rintro e w4 ⟨S1, S2, v0, v1, v2, rfl, s1, s2, s3, o2, o0, o1, hb, l2, l0⟩
  obtain ⟨a0, c0, rfl⟩ := own_app o0
  obtain ⟨a1, c1, rfl⟩ := own_app o1
  obtain ⟨a2, c2, rfl⟩ := own_app o2
  have hz2 := B2.out.size
  have HW : Hid (∀ W, Blk w4.heap.size (.cells #[.int .i64 n.me, .int .i64 n.epoch, .int .i64 n.up, .bool n.ready, .string n.text, .slice a0 n.sides.length c0, .slice a1 n.undo.length c1, .slice a2 n.marks.length c2, .slice none 0 0, .slice none 0 0] 82 (0, 0)) W → Below w4.heap.size w4 W → ∃ vs, WkM w.heap.size w4.heap.size ⟨n, [], []⟩ vs W) := fun W hb' hW =>
    ⟨_, begun (S1 := S1) (S2 := S2) hb' rfl (by omega) s2 s3 hW ((o2.more (fun z hz hx => by
      rcases hx with hx | hx
      · exact .inl (by omega)
      · exact .inr hx)).low hz2) o0 o1 l2 l0 Hf.out hg2.out⟩
  have B4 := Lib.hid (up B2.out hb)
  clear o0 o1 o2 l2 l0 s1 s2 s3 hb HO X2 p0 p1 p2 p3 p4 p5 p6 p7
  go_wp2_with fail
  obtain ⟨vs, h⟩ := HW.out (w4.alloc _) (Blk.new w4 _) ((Below.refl _ _).alloc (Nat.le_refl _) _)
  exact HP.out _ vs _ h (B4.out.alloc B4.out.size _)
end Go.Proofs.YtkbfhgcjimfgkaaDoor
set_option linter.unusedSimpArgs false
namespace Go.Proofs.YtkbfhgcjimfgkaaDoor
open Go.RowKit
/-- a turn, or a refusal -/
def TurnE (E : Int) (t : Tn) (w : World) (e : Ending) (w' : World) : Prop := if E = 0 then TurnP t w e w' else e = .returned (.tuple #[.agg zeroTn, .int .i64 E]) ∧ Below w.heap.size w w'
theorem NdB.queue {t : List Int} {n : Nd} {b : Int} (h : NdB b n) (hG : NdGood t n) (hb : b < 1000000) : NdQ n := by
  intro s hs
  obtain ⟨-, -, h3, -⟩ := h s hs
  obtain ⟨i, hi, rfl⟩ := List.getElem_of_mem hs
  obtain ⟨-, h4, -⟩ := sideOk_all (hG.side i hi).2
  have := (lk_zero h4).2.2.1
  omega
theorem good_len {t : List Int} {n : Nd} (hG : NdGood t n) : n.sides.length ≤ 8 := by
  have h1 := hG.len
  have h2 := nbs_len t n.me
  have h3 : t.length ≤ 7 := by
    have g1 := hG.tree
    unfold checkTree at g1
    by_cases h : t.length < 1 ∨ 7 < t.length
    · rw [if_pos h] at g1; exact absurd g1 (by decide)
    · omega
  omega
/-- what a turn asks for to forward -/
def FwdOk (tn : Tn) (o : Op) (but : Int) : Prop :=
  (∀ k, k < tn.node.sides.length → ((tn.recd o).fwdK o but (k + 1)).posts.length ≤ 1000000 ∧ ((tn.recd o).fwdK o but k).posts.length ≤ 1000000) ∧ (∀ k, k < tn.node.sides.length → (((tn.recd o).fwdK o but k).side k).joined = true → (k : Int) ≠ but → sendE (((tn.recd o).fwdK o but k).side k).e.sent (((tn.recd o).fwdK o but k).side k).e.heard (((tn.recd o).fwdK o but k).side k).e.pending o = 0 ∧ (((tn.recd o).fwdK o but k).side k).l.queue.length ≤ 1000000)
theorem fwd_cond {n : Nd} {tn : Tn} {o : Op} {b : Int} (but : Int) (hl : tn.node.sides.length ≤ 8) (hp : tn.posts.length ≤ 1000) (hs : ∀ k (h : k < tn.node.sides.length), (k : Int) ≠ but → sideOk n tn.node.sides[k] = true ∧ SdB b tn.node.sides[k]) (ho : check o = 0) (hF : sumF o = rc n.text) (hb : b < 1000000) : FwdOk tn o but := by
  refine ⟨fun k hk => ?_, fun k hk hj hne => ?_⟩
  · have h1 := fwdK_posts (tn.recd o) o but (k + 1)
    have h2 := fwdK_posts (tn.recd o) o but k
    rw [recd_posts] at h1 h2
    omega
  · have e1 := fwdK_side (tn.recd o) o but k k (Nat.le_refl _)
    rw [recd_side, tn.side_get k hk] at e1
    rw [e1] at hj ⊢
    obtain ⟨h1, h2⟩ := hs k hk hne
    obtain ⟨k1, k2, -, k4⟩ := sideOk_all h1
    obtain ⟨b1, b2, b3, -⟩ := h2
    have h5 := (lk_zero k2).2.2.1
    exact ⟨edge_sends k1 (k4 hj).1 ho hF (by omega), by omega⟩
theorem edit_cond {t : List Int} {n : Nd} {o : Op} {b : Int} (u : List Op) (hG : NdGood t n) (ho : check o = 0) (hF : sumF o = rc n.text) (hB : NdB b n) (hb : b < 1000000) : FwdOk (((⟨{ n with undo := u }, [], []⟩ : Tn).setText (applyS n.text o)).move true o) o (-1) := by
  refine fwd_cond (n := n) (b := b) (-1) (show n.sides.length ≤ 8 from good_len hG) (by show ([] : List Po).length ≤ _; simp) (fun k hk _ => ⟨(hG.side k hk).2, hB _ (List.getElem_mem hk)⟩) ho hF hb
/-- an edit that is not refused -/
theorem ndEdit_go {base g : Nat} {t : Tn} {vs : Nat → Value} {o : Op} {oa : Option Addr} {oc : Nat} {w : World} {tr : List Int} {n : Nd} {u : List Op} {b : Int} (hn : t = ⟨{ n with undo := u }, [], []⟩) (hg : Good w) (h : WkM base g t vs w) (hr : RdS (NM g vs w) w o oa o.length oc) (hG : NdGood tr n) (hB : NdB b n) (hb : b < 1000000) (hE : n.ready = true) (hA : applyE n.text o = 0) (hF : t.full o = false) :
    Calls Tryd.prog 34 #[.pointer (some ⟨g, 0, none⟩), .slice oa o.length oc] w fun e w' => ∃ (ba : Option Addr) (bc : Nat), e = .returned (.tuple #[.slice ba (invO n.text o).length bc, .int .i64 0]) ∧
      ∃ v2, WkM base g (t.edited o) v2 w' ∧ Touch (Mine g vs) w w' ∧ (∀ z, Mine g v2 z → Mine g vs z ∨ w.heap.size ≤ z) ∧ RdS (fun z => z < w'.heap.size ∧ w.heap.size ≤ z ∧ ¬ Mine g v2 z) w' (invO n.text o) ba (invO n.text o).length bc := by
  subst hn
  obtain ⟨h0, h1, h2⟩ := applyE_zero hA
  have hc := edit_cond u hG h1 h2 hB hb
  refine ndEdit_ok base g _ vs o oa oc w hg h hr hE h0 h1 h2 hF (fun v2 W hW hM hR => ?_) (by have := hG.marks1; show n.marks.length ≤ _; omega)
  exact ndForward_any base g _ v2 o oa oc (-1) W hW hM hR h1 (by unfold I64; decide) (by show ([] : List Rec).length ≤ _; simp) hc.1 hc.2
/-- .. and one that is -/
theorem ndEdit_no {base g : Nat} {t : Tn} {vs : Nat → Value} {o : Op} {oa : Option Addr} {oc : Nat} {w : World} (hg : Good w) (h : WkM base g t vs w) (hr : RdS (NM g vs w) w o oa o.length oc) (h0 : checkText t.node.text = 0) (hE : t.node.ready = false ∨ applyE t.node.text o ≠ 0 ∨ t.full o = true) :
    Calls Tryd.prog 34 #[.pointer (some ⟨g, 0, none⟩), .slice oa o.length oc] w fun e w' => e = .returned (.tuple #[.slice none 0 0, .int .i64 (if t.node.ready = false then 12 else if applyE t.node.text o ≠ 0 then applyE t.node.text o else 8)]) ∧ Below w.heap.size w w' := by
  by_cases hy : t.node.ready = false
  · rw [if_pos hy]
    exact ndEdit_away base g t vs o oa oc w h hy
  · rw [if_neg hy]
    have hy' : t.node.ready = true := by simpa using hy
    by_cases hA : applyE t.node.text o ≠ 0
    · rw [if_pos hA]
      exact ndEdit_bad base g t vs o oa oc w hg h hr hy' h0 hA
    · rw [if_neg hA]
      obtain ⟨-, h1, h2⟩ := applyE_zero (by simpa using hA)
      refine ndEdit_full base g t vs o oa oc w hg h hr hy' h0 h1 h2 ?_
      rcases hE with h | h | h
      · exact absurd h hy
      · exact absurd h hA
      · exact h
/-- another call's reading lies not in a turn's own memory -/
theorem WkM.nm {α : Type} [Rep α] {base g : Nat} {t : Tn} {vs : Nat → Value} {w w0 : World} {l : List α} {a : Option Addr} {n c : Nat} (h : WkM base g t vs w) (hr : RdS (· < w0.heap.size) w0 l a n c) (hb : Below w0.heap.size w0 w) (hB : w0.heap.size ≤ base) : RdS (NM g vs w) w l a n c :=
  hr.mono fun z hz => ⟨⟨Nat.lt_of_lt_of_le hz hb.size, fun hm => by have := (h.mine z hm).1; have hz' : z < w0.heap.size := hz; omega⟩, hb.block z hz⟩
end Go.Proofs.YtkbfhgcjimfgkaaDoor
set_option linter.unusedSimpArgs false
namespace Go.Proofs.YtkbfhgcjimfgkaaDoor
open Go.RowKit
set_option maxRecDepth 100000 in
set_option maxHeartbeats 8000000 in
theorem edit_bad (t : List Int) (ta : Option Addr) (tn tc : Nat) (n : Nd) (a : Option Addr) (c : Nat) (ua : Option Addr) (uc : Nat) (ma : Option Addr) (mc : Nat) (o : Op) (oa : Option Addr) (oc : Nat) (b : Int) (w : World) (hg : Good w) (ht : RdS (· < w.heap.size) w t ta tn tc)
    (h1 : RdS (· < w.heap.size) w n.sides a n.sides.length c) (h2 : RdS (· < w.heap.size) w n.undo ua n.undo.length uc) (h3 : RdS (· < w.heap.size) w n.marks ma n.marks.length mc) (hf : n.fits) (ho : RdS (· < w.heap.size) w o oa o.length oc) (hG : NdGood t n) (hB : NdB b n) (hb : b < 1000000) (hE : editE n o ≠ 0) :
    Calls Tryd.prog 16 #[.slice ta tn tc, .agg #[.int .i64 n.me, .int .i64 n.epoch, .int .i64 n.up, .bool n.ready, .string n.text, .slice a n.sides.length c, .slice ua n.undo.length uc, .slice ma n.marks.length mc], .slice oa o.length oc] w (TurnE (editE n o) (editT n o) w) := by
  have HBg := Lib.hid (fun W (hW : Below w.heap.size w W) => ndBegin_good t ta tn tc n a c ua uc ma mc W (hg.go hW) (ht.go hW) (h1.go hW) (h2.go hW) (h3.go hW) hf hG (hB.queue hG hb))
  have HEd := Lib.hid (fun base g vs W (hg : Good W) (hM : WkM base g ⟨n, [], []⟩ vs W) (hr : RdS (NM g vs W) W o oa o.length oc) => ndEdit_no hg hM hr hG.text (by
    unfold editE at hE
    by_cases h1 : n.ready = false
    · exact .inl h1
    · rw [if_neg h1] at hE
      by_cases h2 : applyE n.text o ≠ 0
      · exact .inr (.inl h2)
      · rw [if_neg h2] at hE
        refine .inr (.inr ?_)
        by_cases h3 : (⟨n, [], []⟩ : Tn).full o = true
        · exact h3
        · rw [if_neg h3] at hE; exact absurd rfl hE))
  have hEE : editE n o = (if n.ready = false then 12 else if applyE n.text o ≠ 0 then applyE n.text o else 8) := by
    unfold editE at hE ⊢
    by_cases h1 : n.ready = false
    · rw [if_pos h1, if_pos h1]
    · rw [if_neg h1] at hE ⊢
      rw [if_neg h1]
      by_cases h2 : applyE n.text o ≠ 0
      · rw [if_pos h2, if_pos h2]
      · rw [if_neg h2] at hE ⊢
        rw [if_neg h2]
        by_cases h3 : (⟨n, [], []⟩ : Tn).full o = true
        · rw [if_pos h3]
        · rw [if_neg h3] at hE; exact absurd rfl hE
  have hnm : ∀ base g vs W, WkM base g ⟨n, [], []⟩ vs W → w.heap.size ≤ base → Below w.heap.size w W → RdS (NM g vs W) W o oa o.length oc := fun base g vs W hM h1 h2 => hM.nm ho h2 h1
  have Hnm := Lib.hid hnm
  have Hg := Lib.hid hg
  obtain ⟨E, hEq⟩ : ∃ E, E = editE n o := ⟨_, rfl⟩
  unfold TurnE
  rw [← hEq] at hE hEE ⊢
  simp only [if_neg hE]
  have hEd2 := HEd.out
  simp only [← hEE] at hEd2
  clear HEd
  have HEd := Lib.hid hEd2
  have hgz := hg.size
  have hEb : (E != 0) = true := by simp [hE]
  clear hEd2 hEE hnm hEq ht h1 h2 h3 hf ho hG hB hg hb
  go_enter Tryd.func16, Tryd.ntmps16
  go_wp2_with fail
  refine abs_run (fun W => Below w.heap.size w W ∧ Blk w.heap.size (.cells #[.int .i64 n.me, .int .i64 n.epoch, .int .i64 n.up, .bool n.ready, .string n.text, .slice a n.sides.length c, .slice ua n.undo.length uc, .slice ma n.marks.length mc] 31 (0, 0)) W ∧ Blk (w.heap.size + 1) (.cells zeroTn 35 (0, 0)) W) ⟨by (repeat (first | exact Below.refl _ _ | assumption | (refine Below.drew ?_) | (refine below_drewN ?_ _) | (refine Below.alloc ?_ (by first | (simp; done) | (simp; omega) | omega) _) | (refine Below.setCell ?_ (by first | (simp; done) | (simp; omega) | omega) _) | (refine Below.trans ?_ (Below.mono (by assumption) (by first | (simp; done) | (simp; omega) | omega))))), (Blk.new w _).alloc _, Blk.at _ _ _ (by simp)⟩ ?_
  rintro w1 ⟨b1, x0, x1⟩
  have B1 := Lib.hid b1
  have X1 := Lib.hid x1
  have hx1 := x1.lt
  clear b1 x0 x1
  refine (HBg.out w1 B1.out).mono ?_
  rintro e w2 ⟨g, vs, rfl, m2, b2⟩
  have M2 := Lib.hid m2
  have B2 := Lib.hid (up B1.out b2)
  have X2 := Lib.hid (X1.out.go b2)
  have hz12 := b2.size
  clear m2 b2 HBg X1
  go_wp2_with fail
  refine (HEd.out _ _ _ _ (Hg.out.go B2.out) M2.out (Hnm.out _ _ _ _ M2.out (by omega) B2.out)).mono ?_
  rintro e w3 ⟨rfl, b3⟩
  have B3 := Lib.hid (up B2.out b3)
  have X3 := Lib.hid (X2.out.go b3)
  have hz := X3.out.lt
  obtain ⟨p0, p1, p2, p3, p4, p5, p6, p7, p8, p9⟩ := blk10_cells X3.out
  have pf := X3.out.frozen
  have G := Lib.hid (zero_turn (w := w) (b := w.heap.size + 1) (by omega) X3.out B3.out)
  clear b3 HEd X2 B2
  go_wp2_with fail
  refine abs_ret (fun W => Blk (w.heap.size + 1) (.cells zeroTn 35 (0, 0)) W ∧ Below w.heap.size w W) G.out ?_
  rintro W ⟨y1, y2⟩
  obtain ⟨k0, k1, k2, k3, k4, k5, k6, k7, k8, k9⟩ := blk10_cells y1
  exact bodyPost_ret (v := .tuple #[.agg zeroTn, .int .i64 E]) (by simp [results, Tryd.results16, go_sem, k0, k1, k2, k3, k4, k5, k6, k7, k8, k9]) rfl ⟨rfl, y2⟩
end Go.Proofs.YtkbfhgcjimfgkaaDoor
