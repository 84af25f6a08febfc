/- Plain: what link.Send and link.Hear leave may be, and is small. No program in sight. -/
import Derived.Test.YtkbfhgcjimfgkaaDoorLkHear
import Derived.Test.YtkbfhgcjimfgkaaDoorFirst
set_option linter.unusedVariables false
set_option linter.unusedSimpArgs false
namespace Go.Proofs.YtkbfhgcjimfgkaaDoor
open Go.RowKit

theorem fillL_all : ∀ (q s : List Fr) (n : Int), s.length ≤ 8 → n ≤ 1048576 → (fillL s q n).1 ++ (fillL s q n).2.1 = s ++ q ∧ (fillL s q n).1.length ≤ 8 ∧ s.length ≤ (fillL s q n).1.length ∧ (fillL s q n).2.2 = n + ((fillL s q n).1.length - s.length) ∧ (fillL s q n).2.2 ≤ 1048576 ∧ ((fillL s q n).2.1 ≠ [] → (fillL s q n).1.length = 8 ∨ (fillL s q n).2.2 = 1048576)
  | [], s, n, h1, h2 => by rw [fillL_nil]; exact ⟨rfl, h1, Nat.le_refl _, by simp, h2, fun h => absurd rfl h⟩
  | f :: q, s, n, h1, h2 => by
    by_cases h : s.length < 8 ∧ n < 1048576
    · rw [fillL_go h.1 h.2]
      obtain ⟨k1, k2, k3, k4, k5, k6⟩ := fillL_all q (s ++ [f]) (n + 1) (by simp; omega) (by omega)
      simp only [List.length_append, List.length_singleton] at k3 k4
      exact ⟨by rw [k1]; simp, k2, by omega, by rw [k4]; push_cast; omega, k5, k6⟩
    · rw [fillL_no h]
      exact ⟨rfl, h1, Nat.le_refl _, by simp, h2, fun _ => by show s.length = 8 ∨ n = 1048576; omega⟩
/-- a link that may be, filled: what it has then -/
structure Filled (l : Lk) (r : Lk) : Prop where
  ep : r.epoch = l.epoch
  he : r.heard = l.heard
  all : r.sent ++ r.queue = l.sent ++ l.queue
  s8 : r.sent.length ≤ 8
  more : l.sent.length ≤ r.sent.length
  nx : r.next = l.next + (r.sent.length - l.sent.length)
  mx : r.next ≤ 1048576
  full : r.queue ≠ [] → r.sent.length = 8 ∨ r.next = 1048576
theorem Lk.filled_all (l : Lk) (h1 : l.sent.length ≤ 8) (h2 : l.next ≤ 1048576) : Filled l l.filled := by
  obtain ⟨k1, k2, k3, k4, k5, k6⟩ := fillL_all l.queue l.sent l.next h1 h2
  exact ⟨rfl, rfl, k1, k2, k3, k4, k5, k6⟩
theorem frsOk_append {a b : List Fr} : frsOk (a ++ b) = (frsOk a && frsOk b) := by unfold frsOk; rw [List.all_append]
/-- what is filled may be, if there are numbers enough -/
theorem Filled.check {l r : Lk} (h : Filled l r) (e0 : 0 ≤ l.epoch) (e1 : l.epoch ≤ 1048576) (n1 : 1 ≤ l.next) (hh0 : 0 ≤ l.heard) (hh1 : l.heard ≤ 1048576) (hs : (l.sent.length : Int) < l.next) (hf : frsOk (l.sent ++ l.queue) = true) (hq : l.next + l.queue.length < 1048576) (hz : l.epoch ≠ 0) : r.check = 0 := by
  have ha := h.all
  have hl := congrArg List.length ha
  simp only [List.length_append] at hl
  have hm := h.more
  have hn := h.nx
  have hfr := hf
  rw [← ha, frsOk_append] at hfr
  simp only [Bool.and_eq_true] at hfr
  have hx := h.mx
  refine lk_make (by rw [h.ep]; exact e0) (by rw [h.ep]; exact e1) (by omega) (by omega) (by rw [h.he]; exact hh0) (by rw [h.he]; exact hh1) h.s8 (by omega) (fun hqn => ?_) hfr.1 hfr.2 (fun h0 => by rw [h.ep] at h0; exact absurd h0 hz)
  rcases h.full (List.length_pos_iff.1 hqn) with h' | h'
  · exact h'
  · omega
theorem push_all {l : Lk} (hc : l.check = 0) (f : Fr) : Filled ⟨l.epoch, l.next, l.sent, l.queue ++ [f], l.heard⟩ (l.push f) := by
  obtain ⟨_, _, _, a4, _, _, a7, _⟩ := lk_zero hc
  exact Lk.filled_all _ a7 a4
theorem sendE_zero {l : Lk} {f : Fr} (h : l.sendE f = 0) : l.check = 0 ∧ l.epoch ≠ 0 ∧ f.check = 0 ∧ l.next ≠ 1048576 := by
  unfold Lk.sendE at h
  by_cases h1 : l.check = 0
  · rw [if_neg (by simpa using h1)] at h
    by_cases h2 : l.epoch = 0
    · rw [if_pos h2] at h; exact absurd h (by decide)
    · rw [if_neg h2] at h
      by_cases h3 : f.check = 0
      · rw [if_neg (by simpa using h3)] at h
        by_cases h4 : l.next = 1048576
        · rw [if_pos h4] at h; exact absurd h (by decide)
        · exact ⟨h1, h2, h3, h4⟩
      · rw [if_pos h3] at h; exact absurd h h3
  · rw [if_pos h1] at h; exact absurd h h1
theorem noLk_fits : noLk.fits := ⟨by unfold I64; decide, by unfold I64; decide, by unfold I64; decide⟩
theorem sendL_fits (l : Lk) (f : Fr) : (l.sendL f).fits ∧ (l.sendP f).length ≤ 8 := by
  unfold Lk.sendL Lk.sendP
  by_cases h : l.sendE f = 0
  · rw [if_pos h, if_pos h]
    obtain ⟨h1, h2, h3, h4⟩ := sendE_zero h
    have hF := push_all h1 f
    obtain ⟨a1, a2, a3, a4, a5, a6, a7, a8, -⟩ := lk_zero h1
    have hn := hF.nx
    have hm := hF.more
    have hx := hF.mx
    have h8 := hF.s8
    simp only at hn hm
    refine ⟨⟨?_, by unfold I64; omega, ?_⟩, by rw [pks_len]; omega⟩
    · rw [hF.ep]; unfold I64; simp only; omega
    · rw [hF.he]; unfold I64; simp only; omega
  · rw [if_neg h, if_neg h]
    exact ⟨noLk_fits, by simp⟩
/-- a frame more, where there are numbers enough: the link may be -/
theorem sendL_check {l : Lk} {f : Fr} (h : l.sendE f = 0) (hq : l.next + l.queue.length + 1 < 1048576) : (l.sendL f).check = 0 := by
  have e : l.sendL f = l.push f := if_pos h
  rw [e]
  obtain ⟨h1, h2, h3, h4⟩ := sendE_zero h
  obtain ⟨a1, a2, a3, a4, a5, a6, a7, a8, a9, a10, a11, a12⟩ := lk_zero h1
  refine (push_all h1 f).check a1 a2 a3 a5 a6 a8 ?_ ?_ h2
  · simp only
    rw [frsOk_append, frsOk_append, a10, a11]
    simp [frsOk, h3]
  · simp only [List.length_append, List.length_singleton]; push_cast; omega
end Go.Proofs.YtkbfhgcjimfgkaaDoor
