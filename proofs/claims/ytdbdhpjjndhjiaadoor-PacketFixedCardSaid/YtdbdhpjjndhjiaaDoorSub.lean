/- Records, one behind the other. No condition. -/
import Derived.Test.YtdbdhpjjndhjiaaDoorReplay
import Derived.Test.YtdbdhpjjndhjiaaDoorSubP
namespace Go.Proofs.YtdbdhpjjndhjiaaDoor
open Go.RowKit

theorem rep_snoc (r : Rec) : ∀ (l : List Rec) (s s' : Str) (e e' : Int), rep l s e = (s', e', 0) → rep (l ++ [r]) s e = rep [r] s' e' := by
  intro l
  induction l with
  | nil =>
    intro s s' e e' h
    simp only [rep, Prod.mk.injEq] at h
    obtain ⟨rfl, rfl, _⟩ := h
    rfl
  | cons x l ih =>
    intro s s' e e' h
    by_cases h1 : checkRecord x = 0
    · by_cases h2 : 0 < x.epoch
      · rw [rep_epoch h1 h2] at h
        rw [List.cons_append, rep_epoch h1 h2, ih _ _ _ _ h]
      · by_cases h3 : applyE s x.op = 0
        · rw [rep_op h1 h2 h3] at h
          rw [List.cons_append, rep_op h1 h2 h3, ih _ _ _ _ h]
        · rw [rep_miss h1 h2 h3] at h
          simp only [Prod.mk.injEq] at h
          exact absurd h.2.2 h3
    · rw [rep_bad h1] at h
      simp only [Prod.mk.injEq] at h
      exact absurd h.2.2 h1
theorem check_nil' : check [] = 0 := by simp [check, checkFrom, sumF, sumT]
theorem rec_epoch {x : Int} (h0 : 1 ≤ x) (h1 : x ≤ 1048576) : checkRecord ⟨x, []⟩ = 0 := by
  unfold checkRecord num
  simp [check_nil']; omega
theorem rec_op {o : Op} (h : check o = 0) : checkRecord ⟨0, o⟩ = 0 := by
  unfold checkRecord num
  simp [h]
theorem rep_add_epoch {l : List Rec} {s : Str} {e x : Int} (h : rep l noText 0 = (s, e, 0)) (h0 : 1 ≤ x) (h1 : x ≤ 1048576) : rep (l ++ [⟨x, []⟩]) noText 0 = (s, max e x, 0) := by
  rw [rep_snoc _ _ _ _ _ _ h, rep_epoch (rec_epoch h0 h1) (by show 0 < x; omega)]; rfl
theorem rep_add_op {l : List Rec} {s : Str} {e : Int} {o : Op} (h : rep l noText 0 = (s, e, 0)) (h0 : checkText s = 0) (h1 : check o = 0) (h2 : sumF o = rc s) : rep (l ++ [⟨0, o⟩]) noText 0 = (applyS s o, e, 0) := by
  rw [rep_snoc _ _ _ _ _ _ h, rep_op (rec_op h1) (by simp) (apply_good h0 h1 h2).1]; rfl
theorem rep_add_miss {l : List Rec} {s : Str} {e : Int} {o : Op} (h : rep l noText 0 = (s, e, 0)) (h0 : checkText s = 0) (h1 : check o = 0) (h2 : sumF o ≠ rc s) : rep (l ++ [⟨0, o⟩]) noText 0 = (noText, 0, 10) := by
  have h3 := apply_miss h0 h1 h2
  rw [rep_snoc _ _ _ _ _ _ h, rep_miss (rec_op h1) (by simp) (by show applyE s o ≠ 0; rw [h3]; omega)]
  show (noText, (0 : Int), applyE s o) = _
  rw [h3]
theorem infoRec : (Tryd.prog.info? 33).map (fun i => (i.zero, i.size, i.bytes)) = some (some (.agg #[.int .i64 0, .slice none 0 0]), 2, 32) := by kernel_rfl
end Go.Proofs.YtdbdhpjjndhjiaaDoor
