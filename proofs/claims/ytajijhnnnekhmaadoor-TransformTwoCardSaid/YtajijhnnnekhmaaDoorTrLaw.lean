/- Transform, as laws use it. -/
import Derived.Test.YtajijhnnnekhmaaDoorTransform
set_option linter.unusedSimpArgs false
namespace Go.Proofs.YtajijhnnnekhmaaDoor
open Go.RowKit

theorem xf_TS (f : Nat) : ∀ a b : List P, AllOk a → AllOk b → FS a = FS b → TS (xf f a b).1 ≤ TS a + TS b := by
  induction f with
  | zero => intro a b _ _ _; simp [xf, TS]
  | succ f ih =>
    intro a b ha hb h
    rcases two_ways ha hb h with ⟨rfl, rfl⟩ | ⟨t, r, rfl⟩ | ⟨t, r, rfl, hne⟩ | ⟨x, r, y, s, rfl, rfl, hx, hy⟩
    · simp [xf, TS]
    · have := ih r b (allOk_cons.1 ha).2 hb (by simpa [FS, P.F] using h)
      rw [xf_i1]
      simp only [TS, P.T]; omega
    · have := ih a r ha (allOk_cons.1 hb).2 (by simpa [FS, P.F] using h)
      rw [xf_i2 _ _ _ _ hne]
      simp only [TS, P.T]; omega
    · have h1 := pass_F (p := x) (l := r) (n := min x.z y.z) hx (by omega)
      have h2 := pass_F (p := y) (l := s) (n := min x.z y.z) hy (by omega)
      have := ih (pass (x :: r) (min x.z y.z)) (pass (y :: s) (min x.z y.z)) (pass_ok ha (by omega)) (pass_ok hb (by omega)) (by omega)
      rw [xf_2 _ _ _ _ _ hx hy]
      cases x with
      | i t => cases hx
      | k m =>
        cases y with
        | i t => cases hy
        | k m' =>
          have e1 := pass_Tk (m := m) (l := r) (n := min m m') (by omega)
          have e2 := pass_Tk (m := m') (l := s) (n := min m m') (by omega)
          simp only [P.z, xe1, List.cons_append, List.nil_append] at this ⊢
          simp only [TS, P.T] at e1 e2 ⊢; omega
        | d m' =>
          have e1 := pass_Tk (m := m) (l := r) (n := min m m') (by omega)
          have e2 := pass_Td (m := m') (l := s) (n := min m m')
          simp only [P.z, xe1, List.nil_append] at this ⊢
          omega
      | d m =>
        cases y with
        | i t => cases hy
        | k m' =>
          have e1 := pass_Td (m := m) (l := r) (n := min m m')
          have e2 := pass_Tk (m := m') (l := s) (n := min m m') (by omega)
          simp only [P.z, xe1, List.cons_append, List.nil_append] at this ⊢
          simp only [TS, P.T] at e1 e2 ⊢; omega
        | d m' =>
          have e1 := pass_Td (m := m) (l := r) (n := min m m')
          have e2 := pass_Td (m := m') (l := s) (n := min m m')
          simp only [P.z, xe1, List.nil_append] at this ⊢
          omega

/-- the two that Transform yields -/
def trX (o q : Op) : Op := opOfP (xf (ZS (opP o) + ZS (opP q)) (opP o) (opP q)).1
def trY (o q : Op) : Op := opOfP (xf (ZS (opP o) + ZS (opP q)) (opP o) (opP q)).2
/-- what they are -/
theorem tr_laws {o q : Op} (h1 : check o = 0) (h2 : check q = 0) (h3 : sumF o = sumF q) (h4 : sumT o + sumT q ≤ 4000) :
    check (trX o q) = 0 ∧ check (trY o q) = 0 ∧ sumF (trX o q) = sumT q ∧ sumF (trY o q) = sumT o ∧ sumT (trX o q) = sumT (trY o q) ∧ 0 ≤ sumT (trX o q) ∧ sumT (trX o q) ≤ sumT o + sumT q ∧
    (∀ t : List Nat, (t.length : Int) = sumF o → app (app t (opP q)) (opP (trX o q)) = app (app t (opP o)) (opP (trY o q))) ∧
    TS (xf (ZS (opP o) + ZS (opP q)) (opP o) (opP q)).1 ≤ 4000 := by
  have hI1 := opIs h1
  have hI2 := opIs h2
  have hFF : FS (opP o) = FS (opP q) := by have := hI1.f; have := hI2.f; omega
  obtain ⟨l1, l2, l3, l4, l5, l6⟩ := xf_laws _ _ _ hI1.ok hI2.ok hFF (Nat.le_refl _)
  have lT := xf_TS (ZS (opP o) + ZS (opP q)) _ _ hI1.ok hI2.ok hFF
  have e1 := hI1.t
  have e2 := hI2.t
  have e3 := hI1.f
  have t1 : TS (xf (ZS (opP o) + ZS (opP q)) (opP o) (opP q)).1 ≤ 4000 := by omega
  have f1 : FS (xf (ZS (opP o) + ZS (opP q)) (opP o) (opP q)).1 ≤ 4000 := by omega
  have f2 : FS (xf (ZS (opP o) + ZS (opP q)) (opP o) (opP q)).2 ≤ 4000 := by omega
  unfold trX trY
  refine ⟨opOfP_check l1 f1 t1, opOfP_check l2 f2 (by omega), by rw [opOfP_sumF]; omega, by rw [opOfP_sumF]; omega, by rw [opOfP_sumT l1, opOfP_sumT l2]; omega, by rw [opOfP_sumT l1]; omega, by rw [opOfP_sumT l1]; omega, fun t ht => ?_, t1⟩
  rw [opOfP_app l1 f1 t1, opOfP_app l2 f2 (by omega)]
  exact l6 t (by omega)
theorem transform_go (o q : Op) (a b : Option Addr) (n c m d : Nat) (w : World) (hg : Good w) (h1 : RdS (· < w.heap.size) w o a n c) (h2 : RdS (· < w.heap.size) w q b m d) (e1 : check o = 0) (e2 : check q = 0) (e3 : sumF o = sumF q) (e4 : sumT o + sumT q ≤ 4000) :
    Calls Tryd.prog 22 #[.slice a n c, .slice b m d] w fun e w' => ∃ (a1 : Option Addr) (c1 : Nat) (a2 : Option Addr) (c2 : Nat), e = .returned (.tuple #[.slice a1 (trX o q).length c1, .slice a2 (trY o q).length c2, .int .i64 0]) ∧
      RdS (· < w'.heap.size) w' (trX o q) a1 (trX o q).length c1 ∧ RdS (· < w'.heap.size) w' (trY o q) a2 (trY o q).length c2 ∧ Below w.heap.size w w' :=
  (transform_ok o q a b n c m d w hg h1 h2 (bothE_zero.2 ⟨e1, e2, e3⟩) (tr_laws e1 e2 e3 e4).2.2.2.2.2.2.2.2).mono fun e w' ⟨a1, c1, a2, c2, he, r1, r2, hb⟩ => ⟨a1, c1, a2, c2, he, r1.wide fun b hb => hb.2, r2.wide fun b hb => hb.2, hb⟩

set_option maxRecDepth 100000 in
set_option maxHeartbeats 1000000 in
theorem transform_bad (o q : Op) (a b : Option Addr) (n c m d : Nat) (w : World) (hg : Good w) (h1 : RdS (· < w.heap.size) w o a n c) (h2 : RdS (· < w.heap.size) w q b m d) (hb : bothE o q ≠ 0) :
    Calls Tryd.prog 22 #[.slice a n c, .slice b m d] w fun e w' => e = .returned (.tuple #[.slice none 0 0, .slice none 0 0, .int .i64 (bothE o q)]) ∧ Below w.heap.size w w' := by
  have HB := Lib.hid (both_any o q a b n c m d w hg h1 h2)
  generalize bothE o q = x at *
  have hx : (x == 0) = false := by simpa using hb
  clear h1 h2 hg hb
  go_enter Tryd.func22, Tryd.ntmps22
  go_wp2_with fail
  refine HB.out.mono ?_
  rintro e w1 ⟨rfl, u1⟩
  have U1 := Lib.hid u1
  clear u1 HB
  go_wp2_with fail
  go_ret3
  exact ⟨rfl, U1.out⟩
end Go.Proofs.YtajijhnnnekhmaaDoor
