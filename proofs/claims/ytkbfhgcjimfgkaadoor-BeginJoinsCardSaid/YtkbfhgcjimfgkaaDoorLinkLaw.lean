/- Plain: a link that sends one frame again and again, and one that hears it. No program in sight. -/
import Derived.Test.YtkbfhgcjimfgkaaDoorLkHear
set_option linter.unusedVariables false
set_option linter.unusedSimpArgs false
namespace Go.Proofs.YtkbfhgcjimfgkaaDoor
open Go.RowKit

def lkF (f : Fr) (k : Nat) : Lk := ⟨2, 1 + (k : Int), List.replicate k f, [], 0⟩
def lkH (h : Nat) : Lk := ⟨2, 1, [], [], (h : Int)⟩
def pkF (f : Fr) (j : Nat) : Pkt := ⟨2, (j : Int), false, 0, f⟩
theorem reps_ok {f : Fr} (hf : f.check = 0) (k : Nat) : frsOk (List.replicate k f) = true := by
  unfold frsOk
  rw [List.all_eq_true]
  intro g hg
  rw [List.eq_of_mem_replicate hg, hf]; rfl
theorem lkF_check {f : Fr} (hf : f.check = 0) {k : Nat} (hk : k ≤ 8) : (lkF f k).check = 0 := by
  refine lk_make ?_ ?_ ?_ ?_ ?_ ?_ ?_ ?_ ?_ (reps_ok hf _) rfl ?_
  all_goals simp only [lkF, List.length_replicate, List.length_nil]
  all_goals omega
theorem lkF_fits {f : Fr} {k : Nat} (hk : k ≤ 8) : (lkF f k).fits := ⟨by unfold I64; simp [lkF], by unfold I64; simp only [lkF]; omega, by unfold I64; simp [lkF]⟩
theorem lkF_send {f : Fr} (hf : f.check = 0) {k : Nat} (hk : k < 8) : (lkF f k).sendE f = 0 ∧ (lkF f k).sendL f = lkF f (k + 1) ∧ (lkF f k).sendP f = [pkF f (k + 1)] := by
  have h0 : (lkF f k).sendE f = 0 := by
    unfold Lk.sendE
    rw [lkF_check hf (by omega), if_neg (by simp), if_neg (by simp [lkF]), hf, if_neg (by simp), if_neg (by simp only [lkF]; omega)]
  have hp : (lkF f k).push f = lkF f (k + 1) := by
    unfold Lk.push Lk.filled
    simp only [lkF, List.nil_append]
    rw [fillL_go (by rw [List.length_replicate]; exact hk) (by omega), fillL_nil]
    simp only
    rw [List.replicate_succ']
    congr 1
    all_goals (push_cast; omega)
  refine ⟨h0, ?_, ?_⟩
  · unfold Lk.sendL
    rw [if_pos h0, hp]
  · unfold Lk.sendP
    rw [if_pos h0, hp]
    unfold Lk.pks
    have e1 : (lkF f (k + 1)).sent.length - (lkF f k).sent.length = 1 := by simp [lkF]
    rw [e1]
    simp only [List.range_one, List.map_cons, List.map_nil]
    congr 1
    unfold Lk.pk pkF
    simp only [lkF, List.length_replicate, Nat.add_zero]
    congr 1
    · push_cast; omega
    · rw [List.getD_eq_getElem?_getD, List.getElem?_replicate, if_pos (by omega), Option.getD_some]
theorem lkH_check {h : Nat} (hh : h ≤ 1048576) : (lkH h).check = 0 := by
  refine lk_make ?_ ?_ ?_ ?_ ?_ ?_ ?_ ?_ ?_ rfl rfl ?_
  all_goals simp only [lkH, List.length_nil]
  all_goals omega
theorem lkH_fits {h : Nat} (hh : h ≤ 1048576) : (lkH h).fits := ⟨by unfold I64; simp [lkH], by unfold I64; simp [lkH], by unfold I64; simp only [lkH]; omega⟩
theorem pkF_check {f : Fr} (hf : f.check = 0) {j : Nat} (h1 : 1 ≤ j) (h2 : j ≤ 1048576) : (pkF f j).check = 0 := by
  have a1 : num 2 = true := by simp [num]
  have a2 : num 0 = true := by simp [num]
  have a3 : num (j : Int) = true := by simp [num]; omega
  have a4 : ¬ ((j : Int) < 1 ∨ (2 : Int) < 1) := by omega
  have hj0 : j ≠ 0 := by omega
  unfold Pkt.check checkPacket pkF
  simp only [a1, a2, a3]
  rw [if_neg (by simp), if_neg (by simp), if_neg a4]
  exact hf
theorem pkF_fits {f : Fr} (hf : f.fits) {j : Nat} (h2 : j ≤ 1048576) : (pkF f j).fits := ⟨by unfold I64; simp [pkF], by unfold I64; simp only [pkF]; omega, by unfold I64; simp [pkF], hf⟩
theorem lkH_hear {f : Fr} (hf : f.check = 0) {h j : Nat} (hh : h < 1048576) (h1 : 1 ≤ j) (h2 : j ≤ 1048576) :
    (lkH h).hearE (pkF f j) = 0 ∧ (lkH h).hearL (pkF f j) = lkH (if j = h + 1 then h + 1 else h) ∧ (lkH h).told (pkF f j) = decide (j = h + 1) ∧ (lkH h).hearP (pkF f j) = [⟨2, 0, true, ((if j = h + 1 then h + 1 else h : Nat) : Int), bareFr⟩] := by
  have h0 : (lkH h).hearE (pkF f j) = 0 := by
    unfold Lk.hearE
    rw [lkH_check (by omega), pkF_check hf h1 h2, if_neg (by simp), if_neg (by simp), if_neg (by simp [lkH, pkF])]
  have ht : (lkH h).tells (pkF f j) = decide (j = h + 1) := by
    unfold Lk.tells
    simp only [lkH, pkF, Bool.not_false, Bool.true_and]
    have e1 : (h : Int) < 1048576 := by omega
    simp only [e1, decide_true, Bool.and_true]
    by_cases e : j = h + 1
    · subst e; simp
    · rw [decide_eq_false e]
      simp
      omega
  have ha : (lkH h).acked (pkF f j).ack = [] := by
    unfold Lk.acked
    rw [if_neg (by simp [lkH, pkF])]
    rfl
  have hb : ((lkH h).behind (pkF f j)).filled = lkH (if j = h + 1 then h + 1 else h) := by
    unfold Lk.behind
    rw [ha, ht]
    unfold Lk.filled
    simp only [lkH, fillL_nil]
    by_cases e : j = h + 1
    · simp [e]
    · simp [e]
  refine ⟨h0, ?_, ?_, ?_⟩
  · unfold Lk.hearL; rw [if_pos h0, hb]
  · unfold Lk.told; rw [if_pos h0, ht]
  · unfold Lk.hearP
    rw [if_pos h0, hb, ha]
    simp [Lk.pks, lkH, pkF, Lk.barePk]
end Go.Proofs.YtkbfhgcjimfgkaaDoor
