/- The walk of text.Move, and what it computes. -/
import Derived.Test.YtkbfhgcjimfgkaaDoorText2
set_option linter.unusedVariables false
set_option linter.unusedSimpArgs false
namespace Go.Proofs.YtkbfhgcjimfgkaaDoor
open Go.RowKit

theorem checkFrom_all : ∀ (l : Op) (q : Option Int), checkFrom q l = 0 → ∀ p ∈ l, partOk p = 0
  | [], _, _, p, hp => by cases hp
  | p :: l, q, h, p', hp' => by
    have h0 : partOk p = 0 := by
      by_cases h0 : partOk p = 0
      · exact h0
      · have e : checkFrom q (p :: l) = partOk p := by cases q <;> rw [checkFrom, if_pos h0]
        rw [e] at h; exact absurd h h0
    have h1 : checkFrom (some p.kind) l = 0 := by
      cases hc : (match q with | some q => clash q p.kind | none => false) with
      | false => rwa [checkFrom_drop q p l h0 hc] at h
      | true => rw [checkFrom_clash q p l h0 hc] at h; exact absurd h (by decide)
    rcases List.mem_cons.1 hp' with rfl | hp'
    · exact h0
    · exact checkFrom_all l _ h1 p' hp'
theorem check_zero {l : Op} (h : check l = 0) : l.length ≤ 8001 ∧ (∀ p ∈ l, partOk p = 0) ∧ sumF l ≤ 4000 ∧ sumT l ≤ 4000 := by
  unfold check at h
  split at h
  · exact absurd h (by decide)
  · split at h
    · rename_i h1; exact absurd h h1
    · split at h
      · exact absurd h (by decide)
      · rename_i h1 h2 h3
        exact ⟨by omega, checkFrom_all l none (by simpa using h2), by omega, by omega⟩
theorem check_small {l : Op} (h : check l = 0) : Small l := by
  obtain ⟨h1, h2, _, _⟩ := check_zero h
  exact ⟨by omega, fun p hp => by have := partOk_small (h2 p hp); omega⟩
theorem sum_parts (f : Part → Int) (l : Op) (k : Nat) (h : ∀ p ∈ l, 0 ≤ f p) : ((l.take k).map f).sum ≤ (l.map f).sum ∧ 0 ≤ ((l.take k).map f).sum := by
  induction l generalizing k with
  | nil => simp
  | cons p l ih =>
    have hp := h p (by simp)
    cases k with
    | zero =>
      have := (ih l.length (fun p hp => h p (by simp [hp]))).2
      rw [List.take_length] at this
      simp; omega
    | succ k =>
      have := ih k (fun p hp => h p (by simp [hp]))
      simp only [List.take_succ_cons, List.map_cons, List.sum_cons]
      omega
/-- the kinds of a part that may be -/
theorem partOk_kind {p : Part} (h : partOk p = 0) : (p.kind = 1 ∧ 1 ≤ p.n ∧ p.n ≤ 4000) ∨ (p.kind = 2 ∧ p.n = 0 ∧ 0 ≤ rc p.text) ∨ (p.kind = 3 ∧ 1 ≤ p.n ∧ p.n ≤ 4000) := by
  have hs := partOk_small h
  unfold partOk at h
  by_cases h1 : p.kind = 1
  · left
    simp only [h1, true_or, if_true] at h
    split at h
    · exact absurd h (by decide)
    · exact ⟨h1, by omega, by omega⟩
  · by_cases h3 : p.kind = 3
    · right; right
      simp only [h3, or_true, if_true] at h
      split at h
      · exact absurd h (by decide)
      · exact ⟨h3, by omega, by omega⟩
    · by_cases h2 : p.kind = 2
      · right; left
        rw [if_neg (by omega), if_pos h2] at h
        split at h
        · rename_i h4; exact absurd h h4
        · split at h
          · exact absurd h (by decide)
          · rename_i h5
            refine ⟨h2, ?_, ?_⟩
            · by_cases h6 : p.n = 0
              · exact h6
              · exact absurd (.inr h6) h5
            · have := hs.2.2.1
              simpa [lenT, h2] using this
      · rw [if_neg (by omega), if_neg h2] at h
        exact absurd h (by decide)

theorem i12 : ((1 : Int) = 2) = False := by simp
theorem i32 : ((3 : Int) = 2) = False := by simp
theorem i31 : ((3 : Int) = 1) = False := by simp
/-- where a place goes -/
def mv (push : Bool) : Op → Int → Int → Int → Int
  | [], _, _, new => new
  | p :: l, a, old, new =>
    if p.kind = 2 then (if old = a ∧ push = false then new + a - old else mv push l a old (new + rc p.text))
    else if p.kind = 1 then (if a < old + p.n then new + a - old else mv push l a (old + p.n) (new + p.n))
    else mv push l (if a < old + p.n then old + p.n else a) (old + p.n) new
theorem sumF_cons (p : Part) (l : Op) : sumF (p :: l) = lenF p + sumF l := by simp [sumF]
theorem sumT_cons (p : Part) (l : Op) : sumT (p :: l) = lenT p + sumT l := by simp [sumT]
theorem sumT_nonneg (l : Op) (h : ∀ p ∈ l, partOk p = 0) : 0 ≤ sumT l := by
  have := (sum_parts lenT l l.length (fun p hp => (partOk_small (h p hp)).2.2.1)).2
  rwa [List.take_length] at this
theorem sumF_nonneg (l : Op) (h : ∀ p ∈ l, partOk p = 0) : 0 ≤ sumF l := by
  have := (sum_parts lenF l l.length (fun p hp => (partOk_small (h p hp)).1)).2
  rwa [List.take_length] at this
theorem mv_bound (push : Bool) (l : Op) (h : ∀ p ∈ l, partOk p = 0) : ∀ (a old new : Int), old ≤ a → new ≤ mv push l a old new ∧ mv push l a old new ≤ new + sumT l := by
  induction l with
  | nil => intro a old new _; simp [mv, sumT]
  | cons p l ih =>
    intro a old new ha
    have ih2 := ih (fun p hp => h p (by simp [hp]))
    have hT := sumT_nonneg l (fun p hp => h p (by simp [hp]))
    rw [sumT_cons]
    rcases partOk_kind (h p (by simp)) with ⟨k, n1, n2⟩ | ⟨k, n1, n2⟩ | ⟨k, n1, n2⟩
    · have e : lenT p = p.n := by simp [lenT, k]
      simp only [mv, k, e, i12, i32, i31, if_false, if_true]
      split
      · omega
      · have := ih2 a (old + p.n) (new + p.n) (by omega); omega
    · have e : lenT p = rc p.text := by simp [lenT, k]
      simp only [mv, k, e, i12, i32, i31, if_false, if_true]
      split
      · omega
      · have := ih2 a old (new + rc p.text) ha; omega
    · have e : lenT p = 0 := by simp [lenT, k]
      simp only [mv, k, e, i12, i32, i31, if_false, if_true]
      have := ih2 (if a < old + p.n then old + p.n else a) (old + p.n) new (by split <;> omega); omega
theorem mv_mono (push : Bool) (l : Op) (h : ∀ p ∈ l, partOk p = 0) : ∀ (a b old new : Int), old ≤ a → a ≤ b → mv push l a old new ≤ mv push l b old new := by
  induction l with
  | nil => intro a b old new _ _; simp [mv]
  | cons p l ih =>
    intro a b old new ha hab
    have hl : ∀ p ∈ l, partOk p = 0 := fun p hp => h p (by simp [hp])
    rcases partOk_kind (h p (by simp)) with ⟨k, n1, n2⟩ | ⟨k, n1, n2⟩ | ⟨k, n1, n2⟩
    · simp only [mv, k, i12, i32, i31, if_false, if_true]
      by_cases h1 : a < old + p.n
      · rw [if_pos h1]
        split
        · omega
        · have := (mv_bound push l hl b (old + p.n) (new + p.n) (by omega)).1; omega
      · rw [if_neg h1, if_neg (by omega)]
        exact ih hl a b _ _ (by omega) hab
    · simp only [mv, k, i12, i32, i31, if_false, if_true]
      by_cases h1 : old = a ∧ push = false
      · rw [if_pos h1]
        split
        · omega
        · have := (mv_bound push l hl b old (new + rc p.text) (by omega)).1; omega
      · rw [if_neg h1]
        by_cases h2 : old = b ∧ push = false
        · exact absurd ⟨by omega, h2.2⟩ h1
        · rw [if_neg h2]
          exact ih hl a b _ _ ha hab
    · simp only [mv, k, i12, i32, i31, if_false, if_true]
      refine ih hl _ _ _ _ ?_ ?_
      · split <;> omega
      · split <;> split <;> omega
theorem mv_push (push : Bool) (l : Op) (h : ∀ p ∈ l, partOk p = 0) : ∀ (a old new : Int), old ≤ a → mv push l a old new ≤ mv true l a old new := by
  cases push with
  | true => intro a old new _; exact Int.le_refl _
  | false =>
  induction l with
  | nil => intro a old new _; simp [mv]
  | cons p l ih =>
    intro a old new ha
    have hl : ∀ p ∈ l, partOk p = 0 := fun p hp => h p (by simp [hp])
    rcases partOk_kind (h p (by simp)) with ⟨k, n1, n2⟩ | ⟨k, n1, n2⟩ | ⟨k, n1, n2⟩
    · simp only [mv, k, i12, i32, i31, if_false, if_true]
      split
      · omega
      · exact ih hl a _ _ (by omega)
    · simp only [mv, k, i12, i32, i31, if_false, if_true]
      rw [if_neg (c := old = a ∧ true = false) (by rintro ⟨_, h⟩; cases h)]
      split
      · have := (mv_bound true l hl a old (new + rc p.text) (by omega)).1; omega
      · exact ih hl a _ _ ha
    · simp only [mv, k, i12, i32, i31, if_false, if_true]
      refine ih hl _ _ _ ?_
      split <;> omega

theorem size_any (p : Part) (w : World) (h2 : I64 p.n) (h3 : p.text.size ≤ strMax) :
    Calls Tryd.prog 93 #[.agg #[.int .i64 p.kind, .int .i64 p.n, .string p.text]] w fun e w' => e = .returned (.int .i64 (if p.kind = 2 then rc p.text else p.n)) ∧ Below w.heap.size w w' := by
  obtain ⟨k, n, t⟩ := p
  simp only at h2 h3 ⊢
  rcases Int.decEq k 2 with h | rfl
  · have g : (k == 2) = false := by simp [h]
    rw [if_neg h]
    clear h
    go_enter Tryd.func93, Tryd.ntmps93
    go_wp2_with fail
    go_ret
    exact ⟨rfl, by (repeat (first | exact Below.refl _ _ | assumption | (refine Below.drew ?_) | (refine below_drewN ?_ _) | (refine Below.alloc ?_ (by first | (simp; done) | (simp; omega) | omega) _) | (refine Below.setCell ?_ (by first | (simp; done) | (simp; omega) | omega) _) | (refine Below.trans ?_ (Below.mono (by assumption) (by first | (simp; done) | (simp; omega) | omega)))))⟩
  · rw [if_pos rfl]
    go_enter Tryd.func93, Tryd.ntmps93
    go_wp2_with (go_at_call 31; refine (rc_any t _ h3).mono ?_; rintro e w1 ⟨rfl, hb1⟩; obtain ⟨hc1, hf1⟩ := bcell hb1)
    go_ret
    exact ⟨rfl, by (repeat (first | exact Below.refl _ _ | assumption | (refine Below.drew ?_) | (refine below_drewN ?_ _) | (refine Below.alloc ?_ (by first | (simp; done) | (simp; omega) | omega) _) | (refine Below.setCell ?_ (by first | (simp; done) | (simp; omega) | omega) _) | (refine Below.trans ?_ (Below.mono (by assumption) (by first | (simp; done) | (simp; omega) | omega)))))⟩
end Go.Proofs.YtkbfhgcjimfgkaaDoor
