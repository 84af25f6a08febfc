/- Plain: what node.Begin makes is a node that may be; who is not the root asks its parent. No program in sight. -/
import Derived.Test.YtkbfhgcjimfgkaaDoorBegin
import Derived.Test.YtkbfhgcjimfgkaaDoorNdCheck
import Derived.Test.YtkbfhgcjimfgkaaDoorTreeLaw
set_option linter.unusedVariables false
set_option linter.unusedSimpArgs false
namespace Go.Proofs.YtkbfhgcjimfgkaaDoor
open Go.RowKit

def jf (ep up : Int) : Fr := ⟨2, up, ep, [], noText⟩
theorem jf_ok {ep up : Int} (h1 : 1 ≤ ep) (h2 : ep ≤ 1048576) (h3 : 0 ≤ up) (h4 : up ≤ 1048576) : (jf ep up).check = 0 := by
  have a1 : num up = true := by simp [num]; omega
  have a2 : num ep = true := by simp [num]; omega
  have a3 : 0 < ep := by omega
  have h3 : checkText noText = 0 := by decide
  have h5 : ¬ (ep = 0) := by omega
  simp [Fr.check, jf, checkFrame, a1, a2, check_nil, h3, h5, frameOdd, emptyS_noText]
  exact decide_eq_true (by omega)
/-- the link of who asks its parent -/
def askLk (ep up : Int) : Lk := ⟨ep, 2, [jf ep up], [], 0⟩
def askPk (ep up : Int) : Pkt := ⟨ep, 1, false, 0, jf ep up⟩
theorem ask_link {ep up : Int} (h1 : 1 ≤ ep) (h2 : ep ≤ 1048576) (h3 : 0 ≤ up) (h4 : up ≤ 1048576) :
    (openLk ep).sendE (jf ep up) = 0 ∧ (openLk ep).sendL (jf ep up) = askLk ep up ∧ (openLk ep).sendP (jf ep up) = [askPk ep up] ∧ (askLk ep up).check = 0 := by
  have hj := jf_ok h1 h2 h3 h4
  have eo : openLk ep = ⟨ep, 1, [], [], 0⟩ := by unfold openLk; rw [if_neg (by omega)]
  rw [eo]
  have c0 : (Lk.mk ep 1 [] [] 0).check = 0 := by
    refine lk_make ?_ ?_ ?_ ?_ ?_ ?_ ?_ ?_ ?_ rfl rfl ?_
    all_goals simp only [List.length_nil]
    all_goals omega
  have hE : (Lk.mk ep 1 [] [] 0).sendE (jf ep up) = 0 := by
    unfold Lk.sendE
    rw [c0, if_neg (by simp), if_neg (by simp only; omega), hj, if_neg (by simp), if_neg (by simp only; omega)]
  have hp : (Lk.mk ep 1 [] [] 0).push (jf ep up) = askLk ep up := by
    unfold Lk.push Lk.filled
    simp only [List.nil_append]
    rw [fillL_go (by simp) (by omega), fillL_nil]
    rfl
  refine ⟨hE, ?_, ?_, ?_⟩
  · unfold Lk.sendL; rw [if_pos hE, hp]
  · unfold Lk.sendP
    rw [if_pos hE, hp]
    rfl
  · refine lk_make ?_ ?_ ?_ ?_ ?_ ?_ ?_ ?_ ?_ ?_ rfl ?_
    · show 0 ≤ ep; omega
    · exact h2
    · show (1 : Int) ≤ 2; omega
    · show (2 : Int) ≤ 1048576; omega
    · show (0 : Int) ≤ 0; omega
    · show (0 : Int) ≤ 1048576; omega
    · show 1 ≤ 8; omega
    · show ((1 : Nat) : Int) < 2; omega
    · intro h; exact absurd h (by simp [askLk])
    · unfold frsOk askLk; simp [hj]
    · intro h
      have : ep = 0 := h
      omega
theorem join_plain {N : Tn} {p : Sd} {r : List Sd} (hs : N.node.sides = p :: r) (h1 : 1 ≤ N.node.epoch) (h2 : N.node.epoch ≤ 1048576) (h3 : 0 ≤ N.node.up) (h4 : N.node.up ≤ 1048576) :
    N.join = { node := { N.node with sides := { p with l := askLk N.node.epoch N.node.up } :: r }, posts := N.posts ++ [⟨p.peer, askPk N.node.epoch N.node.up⟩], recs := N.recs } := by
  obtain ⟨k1, k2, k3, -⟩ := ask_link h1 h2 h3 h4
  have hs0 : N.side 0 = p := by unfold Tn.side; rw [hs]; rfl
  have hj : N.joinFr = jf N.node.epoch N.node.up := rfl
  have hR : N.relink.node.sides = { p with l := openLk N.node.epoch } :: r := by
    unfold Tn.relink Tn.setSide
    rw [hs0, hs]; rfl
  have hR0 : N.relink.side 0 = { p with l := openLk N.node.epoch } := by unfold Tn.side; rw [hR]; rfl
  unfold Tn.join Tn.send
  rw [hR0, hj]
  simp only
  rw [if_pos k1, k2, k3]
  unfold Tn.post Tn.setSide Tn.peer
  simp only
  rw [hR]
  rfl
theorem newSd_ok (n : Nd) (p : Int) : sideOk n (newSd p) = true := by
  have h1 : edgeCheck 0 0 [] = 0 := by decide
  have h2 : (Lk.mk 0 1 [] [] 0).check = 0 := by decide
  unfold sideOk newSd
  simp [h1, h2]
theorem askSd_ok (n : Nd) (p : Int) {ep up : Int} (h : (askLk ep up).check = 0) : sideOk n { newSd p with l := askLk ep up } = true := by
  have h1 : edgeCheck 0 0 [] = 0 := by decide
  unfold sideOk newSd
  simp [h1, h]
/-- the node that begins, in plain words -/
theorem begin_plain {t : List Int} {k : Nat} (hk : k < t.length) (ht : checkTree t = 0) {b : Int} (h1 : 1 ≤ b) (h2 : b ≤ 250) {s : Str} (hs : checkText s = 0) (hs0 : 0 < k → emptyS s = true) :
    NdGood t (beginT t (k : Int) b s).node ∧ (beginT t (k : Int) b s).node.text = s ∧ (beginT t (k : Int) b s).node.ready = ((k : Int) == 0) ∧ (beginT t (k : Int) b s).node.epoch = 4096 * b ∧
    (k = 0 → (beginT t (k : Int) b s).posts = []) ∧ (0 < k → (beginT t (k : Int) b s).posts = [⟨t.getD k 0, askPk (4096 * b) 0⟩]) := by
  have hu : undoFrom (rc s) [] = true := rfl
  by_cases h0 : 0 < k
  · have h0' : 0 < (k : Int) := by omega
    have e0 : nbs t (k : Int) = t.getD k 0 :: kidsTo t (k : Int) t.length := by
      unfold nbs nbsAhead
      rw [if_pos h0']; rfl
    have hsd : (beginN t (k : Int) b s).node.sides = newSd (t.getD k 0) :: (kidsTo t (k : Int) t.length).map newSd := by
      show (nbs t (k : Int)).map newSd = _
      rw [e0]; rfl
    have hT : beginT t (k : Int) b s = (beginN t (k : Int) b s).join := by unfold beginT; rw [if_pos h0']
    have hJ := join_plain hsd (show 1 ≤ 4096 * b by omega) (show 4096 * b ≤ 1048576 by omega) (show (0 : Int) ≤ 0 by omega) (show (0 : Int) ≤ 1048576 by omega)
    obtain ⟨-, -, -, hck⟩ := ask_link (ep := 4096 * b) (up := 0) (by omega) (by omega) (by omega) (by omega)
    rw [hT, hJ]
    refine ⟨⟨ht, ?_, ?_, ?_, ?_, ?_, ?_, ?_, hs, ?_, ?_, ?_, ?_, ?_, ?_, ?_⟩, rfl, rfl, rfl, fun h => by omega, fun _ => rfl⟩
    · show 0 ≤ (k : Int); omega
    · show (k : Int) < _; omega
    · show 1 ≤ 4096 * b; omega
    · show 4096 * b < 1048576; omega
    · show (0 : Int) ≤ 0; omega
    · show (0 : Int) ≤ 1048576; omega
    · intro _; rfl
    · show ({ newSd (t.getD k 0) with l := askLk (4096 * b) 0 } :: (kidsTo t (k : Int) t.length).map newSd).length = (nbs t (k : Int)).length
      rw [e0]; simp
    · unfold undoOk
      show (undoFrom (rc s) [].reverse && decide (([] : List Op).length ≤ 12)) = true
      rfl
    · show ([] : List Mk).length ≤ 1; simp
    · intro _
      exact ⟨hs0 h0, rfl, rfl, by show (k : Int) ≠ 0; omega⟩
    · intro i hi
      show (nbs t (k : Int))[i]? = some _ ∧ _
      match i, hi with
      | 0, _ => exact ⟨by rw [e0]; rfl, askSd_ok _ _ hck⟩
      | i + 1, hi =>
        have hi2 : i < (kidsTo t (k : Int) t.length).length := by
          have : i + 1 < ({ newSd (t.getD k 0) with l := askLk (4096 * b) 0 } :: (kidsTo t (k : Int) t.length).map newSd).length := hi
          simpa using this
        have hg : ({ newSd (t.getD k 0) with l := askLk (4096 * b) 0 } :: (kidsTo t (k : Int) t.length).map newSd)[i + 1] = newSd (kidsTo t (k : Int) t.length)[i] := by simp
        refine ⟨?_, ?_⟩
        · rw [e0, List.getElem?_cons_succ, List.getElem?_eq_getElem hi2]
          exact congrArg (fun x => some (Sd.peer x)) hg.symm
        · exact (congrArg (sideOk _) hg).trans (newSd_ok _ _)
    · intro _ sd hsd0
      have : some ({ newSd (t.getD k 0) with l := askLk (4096 * b) 0 } : Sd) = some sd := hsd0
      cases this
      show false = ((k : Int) == 0)
      simp; omega
    · intro m hm
      cases hm
  · have hk0 : k = 0 := by omega
    subst hk0
    have hT : beginT t ((0 : Nat) : Int) b s = beginN t ((0 : Nat) : Int) b s := by unfold beginT; rw [if_neg (by simp)]
    rw [hT]
    refine ⟨⟨ht, ?_, ?_, ?_, ?_, ?_, ?_, ?_, hs, ?_, ?_, ?_, ?_, ?_, ?_, ?_⟩, rfl, rfl, rfl, fun _ => rfl, fun h => by omega⟩
    · show 0 ≤ ((0 : Nat) : Int); omega
    · show ((0 : Nat) : Int) < _; omega
    · show 1 ≤ 4096 * b; omega
    · show 4096 * b < 1048576; omega
    · show (0 : Int) ≤ 0; omega
    · show (0 : Int) ≤ 1048576; omega
    · intro _; rfl
    · show ((nbs t ((0 : Nat) : Int)).map newSd).length = _
      rw [List.length_map]; rfl
    · unfold undoOk
      show (undoFrom (rc s) [].reverse && decide (([] : List Op).length ≤ 12)) = true
      rfl
    · show ([] : List Mk).length ≤ 1; simp
    · intro h
      have : ((((0 : Nat) : Int) == 0) : Bool) = false := h
      simp at this
    · intro i hi
      have hi2 : i < (nbs t ((0 : Nat) : Int)).length := by
        have : i < ((nbs t ((0 : Nat) : Int)).map newSd).length := hi
        simpa using this
      have hg : ((nbs t ((0 : Nat) : Int)).map newSd)[i] = newSd (nbs t ((0 : Nat) : Int))[i] := by simp
      refine ⟨?_, (congrArg (sideOk _) hg).trans (newSd_ok _ _)⟩
      show (nbs t ((0 : Nat) : Int))[i]? = _
      rw [List.getElem?_eq_getElem hi2]
      exact congrArg (fun x => some (Sd.peer x)) hg.symm
    · intro h
      have : (0 : Int) < ((0 : Nat) : Int) := h
      omega
    · intro m hm
      cases hm
end Go.Proofs.YtkbfhgcjimfgkaaDoor
