/- Plain: what is inverted, and inverted again. No program in sight. -/
import Derived.Test.YtajijhnnnekhmaaDoorSame
import Derived.Test.YtajijhnnnekhmaaDoorAppLaw
set_option linter.unusedSimpArgs false
namespace Go.Proofs.YtajijhnnnekhmaaDoor
open Go.RowKit

theorem addP_k0 (R : List P) : addP R (.k 0) = R := by cases R <;> simp [addP]
theorem addP_d0 (R : List P) : addP R (.d 0) = R := by cases R <;> simp [addP]
theorem addP_i0 (R : List P) : addP R (.i []) = R := by
  cases R with
  | nil => simp [addP]
  | cons p R => cases p <;> simp [addP]
theorem addP_kk (R : List P) (n m : Nat) : addP (addP R (.k n)) (.k m) = addP R (.k (n + m)) := by
  by_cases hn : n = 0
  · subst hn; rw [addP_k0, Nat.zero_add]
  · by_cases hm : m = 0
    · subst hm; rw [addP_k0, Nat.add_zero]
    · have h3 : n + m ≠ 0 := by omega
      cases R with
      | nil => simp [addP, hn, hm]
      | cons p R => cases p <;> simp [addP, hn, hm, Nat.add_assoc]
theorem addP_dd (R : List P) (n m : Nat) : addP (addP R (.d n)) (.d m) = addP R (.d (n + m)) := by
  by_cases hn : n = 0
  · subst hn; rw [addP_d0, Nat.zero_add]
  · by_cases hm : m = 0
    · subst hm; rw [addP_d0, Nat.add_zero]
    · have h3 : n + m ≠ 0 := by omega
      cases R with
      | nil => simp [addP, hn, hm]
      | cons p R => cases p <;> simp [addP, hn, hm, Nat.add_assoc]
theorem addP_ii (x y : List Nat) : ∀ R : List P, addP (addP R (.i x)) (.i y) = addP R (.i (x ++ y)) := by
  intro R
  by_cases hx : x = []
  · subst hx; rw [addP_i0, List.nil_append]
  · by_cases hy : y = []
    · subst hy; rw [addP_i0, List.append_nil]
    · induction R with
      | nil => simp [addP, hx, hy]
      | cons p R ih => cases p <;> simp [addP, hx, hy, List.append_assoc, ih]
theorem addP_di (R : List P) (n : Nat) (x : List Nat) : addP (addP R (.d n)) (.i x) = addP (addP R (.i x)) (.d n) := by
  by_cases hn : n = 0
  · subst hn; rw [addP_d0, addP_d0]
  · by_cases hx : x = []
    · subst hx; rw [addP_i0, addP_i0]
    · cases R with
      | nil => simp [addP, hn, hx]
      | cons p R => cases p <;> simp [addP, hn, hx]
/-- parts that build the same, whatever stands ahead -/
def Alike (a b : List P) : Prop := ∀ R : List P, a.foldl addP R = b.foldl addP R
theorem Alike.app {a b c d : List P} (h : Alike a b) (k : Alike c d) : Alike (a ++ c) (b ++ d) := fun R => by rw [List.foldl_append, List.foldl_append, h, k]
theorem Alike.refl (a : List P) : Alike a a := fun _ => rfl
theorem Alike.trans {a b c : List P} (h : Alike a b) (k : Alike b c) : Alike a c := fun R => (h R).trans (k R)
theorem Alike.opOf {a b : List P} (h : Alike a b) : opOfP a = opOfP b := by unfold opOfP build; rw [h]
theorem iv_app (a : List P) : ∀ (t : List Nat) (b : List P), iv t (a ++ b) = iv t a ++ iv (t.drop (FS a)) b := by
  induction a with
  | nil => intro t b; simp [iv, FS]
  | cons p a ih => intro t b; cases p <;> simp [iv, FS, P.F, ih, List.drop_drop]
theorem iv_addP (t : List Nat) (p : P) : ∀ R : List P, Alike (iv t (addP R p).reverse) (iv t (R.reverse ++ [p])) := by
  cases p with
  | k m =>
    intro R
    by_cases hm : m = 0
    · subst hm
      rw [addP_k0, iv_app]
      intro S
      simp [iv, List.foldl_append, addP_k0]
    · cases R with
      | nil => simp [addP, hm, iv]; exact Alike.refl _
      | cons q R =>
        cases q with
        | k n =>
          simp only [addP, if_neg hm, List.reverse_cons, iv_app, List.append_assoc]
          exact (Alike.refl _).app fun S => by simp [iv, addP_kk, List.foldl]
        | i n => simp only [addP, if_neg hm, List.reverse_cons]; exact Alike.refl _
        | d n => simp only [addP, if_neg hm, List.reverse_cons]; exact Alike.refl _
  | d m =>
    intro R
    by_cases hm : m = 0
    · subst hm
      rw [addP_d0, iv_app]
      intro S
      simp [iv, List.foldl_append, addP_i0]
    · cases R with
      | nil => simp [addP, hm, iv]; exact Alike.refl _
      | cons q R =>
        cases q with
        | d n =>
          simp only [addP, if_neg hm, List.reverse_cons, iv_app, List.append_assoc]
          exact (Alike.refl _).app fun S => by
            simp only [iv, List.foldl, List.foldl_append, List.nil_append, List.cons_append, addP_ii, FS_app, FS, P.F]
            rw [List.take_add, List.drop_drop]; simp
        | k n => simp only [addP, if_neg hm, List.reverse_cons]; exact Alike.refl _
        | i n => simp only [addP, if_neg hm, List.reverse_cons]; exact Alike.refl _
  | i l =>
    intro R
    by_cases hl : l = []
    · subst hl
      rw [addP_i0, iv_app]
      intro S
      simp [iv, List.foldl_append, addP_d0]
    · induction R with
      | nil => simp [addP, hl, iv]; exact Alike.refl _
      | cons q R ih =>
        cases q with
        | k n => simp only [addP, if_neg hl, List.reverse_cons]; exact Alike.refl _
        | i n =>
          simp only [addP, if_neg hl, List.reverse_cons, iv_app, List.append_assoc]
          exact (Alike.refl _).app fun S => by simp [iv, addP_dd, List.foldl]
        | d n =>
          simp only [addP, if_neg hl, List.reverse_cons]
          rw [iv_app]
          refine (ih.app (Alike.refl _)).trans ?_
          rw [FS_rev, FS_addP]
          simp only [iv_app, List.append_assoc]
          exact (Alike.refl _).app fun S => by simp [iv, addP_di, List.foldl, FS_rev, FS, P.F]
theorem iv_foldl (t : List Nat) (l : List P) : ∀ R : List P, Alike (iv t (l.foldl addP R).reverse) (iv t (R.reverse ++ l)) := by
  induction l with
  | nil => intro R; simp; exact Alike.refl _
  | cons p l ih =>
    intro R
    rw [List.foldl_cons]
    refine (ih (addP R p)).trans ?_
    rw [iv_app]
    refine ((iv_addP t p R).app (Alike.refl _)).trans ?_
    rw [FS_rev, FS_addP, show R.reverse ++ p :: l = (R.reverse ++ [p]) ++ l from by simp, iv_app (R.reverse ++ [p]) t l, FS_app, FS_rev]
    simp only [FS, Nat.add_zero]
    exact Alike.refl _
theorem iv_build (t : List Nat) (l : List P) : opOfP (iv t (build l).reverse) = opOfP (iv t l) := by
  have := (iv_foldl t l []).opOf
  simpa [build] using this
theorem iv_iv (o : List P) : ∀ t : List Nat, t.length = FS o → iv (app t o) (iv t o) = o := by
  induction o with
  | nil => intro t _; simp [iv]
  | cons p o ih =>
    intro t ht
    cases p with
    | k n =>
      simp only [FS, P.F] at ht
      have hl : (t.take n).length = n := by rw [List.length_take]; omega
      simp only [iv, app]
      rw [List.drop_left' hl, ih _ (by rw [List.length_drop]; omega)]
    | i l =>
      simp only [FS, P.F, Nat.zero_add] at ht
      simp only [iv, app]
      rw [List.take_left, List.drop_left, ih t ht]
    | d n =>
      simp only [FS, P.F] at ht
      have hl : (t.take n).length = n := by rw [List.length_take]; omega
      simp only [iv, app]
      rw [hl, ih _ (by rw [List.length_drop]; omega)]
/-- what Invert yields -/
def invO (t : Str) (o : Op) : Op := opOfP (iv (rns t) (opP o))
theorem inv_laws {t : Str} {o : Op} (h0 : checkText t = 0) (h1 : check o = 0) (h2 : sumF o = rc t) :
    check (invO t o) = 0 ∧ sumF (invO t o) = sumT o ∧ sumT (invO t o) = sumF o ∧ app (app (rns t) (opP o)) (opP (invO t o)) = rns t ∧ opP (invO t o) = (build (iv (rns t) (opP o))).reverse ∧
    AllOk (iv (rns t) (opP o)) ∧ FS (iv (rns t) (opP o)) ≤ 4000 ∧ TS (iv (rns t) (opP o)) ≤ 4000 := by
  have hI := opIs h1
  have hs := (check_zero h1).2.2
  have e1 := hI.f
  have e2 := hI.t
  have hrt := rc_rns t
  obtain ⟨l1, l2, l3, l4⟩ := iv_laws (opP o) (rns t) (by omega) hI.ok (rns_vr (valid_of h0).1)
  unfold invO
  refine ⟨opOfP_check l1 (by omega) (by omega), by rw [opOfP_sumF]; omega, by rw [opOfP_sumT l1]; omega, ?_, opOfP_opP l1 (by omega) (by omega), l1, by omega, by omega⟩
  rw [opOfP_app l1 (by omega) (by omega)]
  exact l4
theorem inv_back {t : Str} {o : Op} (h0 : checkText t = 0) (h1 : check o = 0) (h2 : sumF o = rc t) :
    applyE (applyS t o) (invO t o) = 0 ∧ applyS (applyS t o) (invO t o) = t ∧ invO (applyS t o) (invO t o) = o := by
  obtain ⟨i1, i2, i3, i4, i5, -⟩ := inv_laws h0 h1 h2
  obtain ⟨a1, a2, a3, a4, a5, a6⟩ := apply_good h0 h1 h2
  obtain ⟨b1, b2, b3, b4, b5, b6⟩ := apply_good a5 i1 (by omega)
  have hI := opIs h1
  have e1 := hI.f
  have hrt := rc_rns t
  refine ⟨b1, ?_, ?_⟩
  · rw [b2, rns_apply h0 h1 h2, i4]
    exact enc_rns (valid_of h0).1
  · unfold invO at i5 ⊢
    rw [i5, rns_apply h0 h1 h2, iv_build, iv_iv _ _ (by omega)]
    exact opOfP_self h1
end Go.Proofs.YtajijhnnnekhmaaDoor
