/- The walk of MoveRest. -/
import Derived.Test.YtndclmjpjcilmaaDoorAppLaw
import Derived.Test.YtndclmjpjcilmaaDoorBuilder
import Derived.Test.YtndclmjpjcilmaaDoorMoveW
import Derived.Test.YtndclmjpjcilmaaDoorMason
import Derived.Test.YtndclmjpjcilmaaDoorRegion
import Derived.Outline
set_option linter.unusedSimpArgs false
namespace Go.Proofs.YtndclmjpjcilmaaDoor
open Go.RowKit

theorem Solid.triv {p : Part} (h : Solid p) : triv p = false := by
  obtain ⟨k, n, t⟩ := p
  rcases h with ⟨hk, hn, _⟩ | ⟨hk, _, _, he⟩
  · simp only at hk hn
    have : n ≠ 0 := by omega
    rcases hk with rfl | rfl <;> simp [Go.Proofs.YtndclmjpjcilmaaDoor.triv, this]
  · simp only at hk he; subst hk; simp [Go.Proofs.YtndclmjpjcilmaaDoor.triv, he]
theorem Canon.drop {l r : List Part} (h : Canon (l ++ r)) : Canon r := by
  induction l with
  | nil => exact h
  | cons p l ih => exact ih h.tail
/-- parts in their one form, added one by one, make themselves -/
theorem addR_self {o : Op} (h : Canon o.reverse) (k : Nat) (hk : k < o.length) : addR (o.take k).reverse o[k] = (o.take (k + 1)).reverse := by
  have e1 : (o.take (k + 1)).reverse = o[k] :: (o.take k).reverse := by rw [take_next o k hk, List.reverse_append]; rfl
  have e2 : o.reverse = (o.drop (k + 1)).reverse ++ (o.take (k + 1)).reverse := by rw [← List.reverse_append, List.take_append_drop]
  rw [e2] at h
  have hc := h.drop
  rw [e1] at hc ⊢
  refine addR_ge hc.head.triv (fun q hq => ?_)
  generalize (o.take k).reverse = r at *
  cases r with
  | nil => cases hq
  | cons x r =>
    simp at hq; subst hq
    have := hc.2.1
    unfold clash at this
    simp at this
    exact ⟨this.1, fun h' => this.2 h'.2 h'.1⟩
theorem mv_through (l rest : Op) (h : ∀ p ∈ l, partOk p = 0) : ∀ (a old new : Int), old + sumF l ≤ a → mv true (l ++ rest) a old new = mv true rest a (old + sumF l) (new + sumT l) := by
  induction l with
  | nil => intro a old new _; simp [sumF, sumT]
  | cons p l ih =>
    intro a old new hle
    have hp := partOk_kind (h p (List.mem_cons_self ..))
    have hl : ∀ q ∈ l, partOk q = 0 := fun q hq => h q (List.mem_cons_of_mem _ hq)
    have h0 := sumF_nonneg l hl
    rw [sumF_cons] at hle ⊢
    rw [sumT_cons]
    obtain ⟨pk, pn, pt⟩ := p
    rcases hp with ⟨h1, h2, h3⟩ | ⟨h1, h2, h3⟩ | ⟨h1, h2, h3⟩
    · simp only at h1 h2 h3; subst h1
      have e1 : lenF ⟨1, pn, pt⟩ = pn := by simp [lenF]
      have e2 : lenT ⟨1, pn, pt⟩ = pn := by simp [lenT]
      rw [e1] at hle; rw [e1, e2]
      simp only [List.cons_append, mv, i12, if_false, if_true]
      rw [if_neg (by omega), ih hl _ _ _ (by omega)]
      congr 1 <;> omega
    · simp only at h1 h2 h3; subst h1
      have e1 : lenF ⟨2, pn, pt⟩ = 0 := by simp [lenF]
      have e2 : lenT ⟨2, pn, pt⟩ = rc pt := by simp [lenT]
      rw [e1] at hle; rw [e1, e2]
      simp only [List.cons_append, mv, if_true]
      rw [if_neg (by simp), ih hl _ _ _ (by omega)]
      congr 1 <;> omega
    · simp only at h1 h2 h3; subst h1
      have e1 : lenF ⟨3, pn, pt⟩ = pn := by simp [lenF]
      have e2 : lenT ⟨3, pn, pt⟩ = 0 := by simp [lenT]
      rw [e1] at hle; rw [e1, e2]
      simp only [List.cons_append, mv, i32, i31, if_false]
      rw [if_neg (by omega), ih hl _ _ _ (by omega)]
      congr 1 <;> omega
/-- a last keep is added -/
theorem rest_op (a : Op) (m : Nat) (hm : 1 ≤ m) (N : Nat) (hc : check a = 0) (hF : sumF a + m = N) (hN : N ≤ 100) (hT : sumT a ≤ 100) :
    check (addR a.reverse ⟨1, m, noText⟩).reverse = 0 ∧ sumF (addR a.reverse ⟨1, m, noText⟩).reverse = N ∧
    (∀ rs : List Nat, app rs (opP (addR a.reverse ⟨1, m, noText⟩).reverse) = app rs (opP a) ++ (rs.drop (FS (opP a))).take m) ∧
    mv true (addR a.reverse ⟨1, m, noText⟩).reverse (sumF a) 0 0 = sumT a := by
  have hI := opIs hc
  have ep : (⟨1, (m : Int), noText⟩ : Part) = (P.k m).part := rfl
  have hk : ∀ l, P.k m = .i l → ∀ r ∈ l, Uni.vr r := fun l h => by cases h
  have hok : ∀ q ∈ (opP a).reverse, q.ok := fun q hq => hI.ok q (by simpa using hq)
  have h1 : addR a.reverse ⟨1, m, noText⟩ = (addP (opP a).reverse (.k m)).map P.part := by
    rw [ep, ← addR_part (.k m) hk _ hok]
    congr 1
    rw [List.map_reverse, ← hI.eq]
  have hcan := addP_can (.k m) hk _ hI.can
  have hFS : FS (addP (opP a).reverse (.k m)) = FS (opP a) + m := by rw [FS_addP, FS_rev]; rfl
  have hTS : TS (addP (opP a).reverse (.k m)) = TS (opP a) + m := by rw [TS_addP, TS_rev]; rfl
  have hf := hI.f
  have ht := hI.t
  have hI2 := opIs_of hcan (by omega) (by omega)
  have e2 : (addR a.reverse ⟨1, m, noText⟩).reverse = (addP (opP a).reverse (.k m)).reverse.map P.part := by rw [h1, List.map_reverse]
  rw [← e2] at hI2
  refine ⟨hI2.check, by rw [hI2.f, FS_rev, hFS]; omega, fun rs => ?_, ?_⟩
  · rw [hI2.opP, app_addP, List.reverse_cons, List.reverse_reverse, app_app]
    simp [app]
  · have hall := (check_zero hc).2.1
    by_cases hlast : ∃ q r, a.reverse = q :: r ∧ q.kind = 1
    · obtain ⟨q, r, he, hq⟩ := hlast
      have htr : triv ⟨1, (m : Int), noText⟩ = false := by simp [triv]; omega
      rw [he, addR_merge htr hq, List.reverse_cons]
      have ha : a = r.reverse ++ [q] := by rw [← List.reverse_reverse a, he, List.reverse_cons]
      have hrall : ∀ p ∈ r.reverse, partOk p = 0 := fun p hp => hall p (by rw [ha]; exact List.mem_append_left _ hp)
      have hqall := hall q (by rw [ha]; simp)
      have e3 : sumF a = sumF r.reverse + q.n := by rw [ha]; simp [sumF, lenF, hq]
      have e4 : sumT a = sumT r.reverse + q.n := by rw [ha]; simp [sumT, lenT, hq]
      have hqn := (partOk_kind hqall)
      have hqn1 : 1 ≤ q.n := by rcases hqn with ⟨_, h, _⟩ | ⟨h, _⟩ | ⟨h, _⟩ <;> omega
      rw [mv_through r.reverse _ hrall (sumF a) 0 0 (by omega)]
      simp only [mv, hq, i12, if_false, if_true]
      rw [if_pos (by omega)]
      omega
    · have he : addR a.reverse ⟨1, m, noText⟩ = ⟨1, m, noText⟩ :: a.reverse := by
        refine addR_ge (by simp [triv]; omega) (fun q hq => ?_)
        cases hr : a.reverse with
        | nil => rw [hr] at hq; cases hq
        | cons x r => rw [hr] at hq; simp at hq; subst hq; exact ⟨fun h => hlast ⟨x, r, hr, h⟩, by simp⟩
      rw [he, List.reverse_cons, List.reverse_reverse, mv_through a _ hall (sumF a) 0 0 (by omega)]
      simp only [mv, i12, if_false, if_true]
      rw [if_pos (by omega)]
      omega
theorem bang_ok (s : Str) (h : checkText s = 0) (h3 : rc s ≤ 3999) : checkText (s ++ ⟨#[33]⟩) = 0 ∧ rc (s ++ ⟨#[33]⟩) = rc s + 1 := by
  have h1 := append_valid (valid_of h).1 (show valid ⟨#[33]⟩ = true from rfl)
  have h2 : rc ⟨#[33]⟩ = 1 := rfl
  exact ⟨checkText_of h1.1 (by omega), by omega⟩
theorem mild_of_ok {p : Part} (h : partOk p = 0) : Mild p := by
  have h1 := partOk_kind h
  have hs := solid_of_ok h
  refine ⟨by rcases h1 with ⟨h, _⟩ | ⟨h, _⟩ | ⟨h, _⟩ <;> omega, by rcases h1 with ⟨_, h⟩ | ⟨_, h, _⟩ | ⟨_, h⟩ <;> omega, ?_⟩
  rcases hs with ⟨_, _, ht⟩ | ⟨h2, _, hv, _⟩
  · rw [ht, noText_size]; omega
  · have hsm := partOk_small h
    have h4 : lenT p = rc p.text := by simp [lenT, h2]
    have h5 := enc_size (rns p.text) (rns_vr hv)
    rw [enc_rns hv] at h5
    have h6 := rc_rns p.text
    omega
end Go.Proofs.YtndclmjpjcilmaaDoor
