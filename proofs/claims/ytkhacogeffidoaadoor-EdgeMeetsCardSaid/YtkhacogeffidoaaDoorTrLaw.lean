/- Transform, as laws use it. -/
import Derived.Test.YtkhacogeffidoaaDoorTransform
set_option linter.unusedVariables false
set_option linter.unusedSimpArgs false
namespace Go.Proofs.YtkhacogeffidoaaDoor
open Go.RowKit

/-- the two that Transform yields -/
def trX (o q : Op) : Op := opOfP (xf (ZS (opP o) + ZS (opP q)) (opP o) (opP q)).1
def trY (o q : Op) : Op := opOfP (xf (ZS (opP o) + ZS (opP q)) (opP o) (opP q)).2
/-- what they are -/
theorem tr_laws {o q : Op} (h1 : check o = 0) (h2 : check q = 0) (h3 : sumF o = sumF q) (h4 : sumT o + sumT q ≤ 4000) :
    check (trX o q) = 0 ∧ check (trY o q) = 0 ∧ sumF (trX o q) = sumT q ∧ sumF (trY o q) = sumT o ∧ sumT (trX o q) = sumT (trY o q) ∧ 0 ≤ sumT (trX o q) ∧ sumT (trX o q) ≤ sumT o + sumT q ∧
    (∀ t : List Nat, (t.length : Int) = sumF o → app (app t (opP q)) (opP (trX o q)) = app (app t (opP o)) (opP (trY o q))) ∧
    TS (xf (ZS (opP o) + ZS (opP q)) (opP o) (opP q)).1 ≤ 4000 := by
  have hI1 := opIs h1
  have hI2 := opIs h2
  have hFF : FS (opP o) = FS (opP q) := by have := hI1.f; have := hI2.f; omega
  obtain ⟨l1, l2, l3, l4, l5, l6⟩ := xf_laws _ _ _ hI1.ok hI2.ok hFF (Nat.le_refl _)
  have lT := xf_TS (ZS (opP o) + ZS (opP q)) _ _ hI1.ok hI2.ok hFF
  have e1 := hI1.t
  have e2 := hI2.t
  have e3 := hI1.f
  have t1 : TS (xf (ZS (opP o) + ZS (opP q)) (opP o) (opP q)).1 ≤ 4000 := by omega
  have f1 : FS (xf (ZS (opP o) + ZS (opP q)) (opP o) (opP q)).1 ≤ 4000 := by omega
  have f2 : FS (xf (ZS (opP o) + ZS (opP q)) (opP o) (opP q)).2 ≤ 4000 := by omega
  unfold trX trY
  refine ⟨opOfP_check l1 f1 t1, opOfP_check l2 f2 (by omega), by rw [opOfP_sumF]; omega, by rw [opOfP_sumF]; omega, by rw [opOfP_sumT l1, opOfP_sumT l2]; omega, by rw [opOfP_sumT l1]; omega, by rw [opOfP_sumT l1]; omega, fun t ht => ?_, t1⟩
  rw [opOfP_app l1 f1 t1, opOfP_app l2 f2 (by omega)]
  exact l6 t (by omega)
theorem transform_go (o q : Op) (a b : Option Addr) (n c m d : Nat) (w : World) (hg : Good w) (h1 : RdS (· < w.heap.size) w o a n c) (h2 : RdS (· < w.heap.size) w q b m d) (e1 : check o = 0) (e2 : check q = 0) (e3 : sumF o = sumF q) (e4 : sumT o + sumT q ≤ 4000) :
    Calls Tryd.prog 55 #[.slice a n c, .slice b m d] w fun e w' => ∃ (a1 : Option Addr) (c1 : Nat) (a2 : Option Addr) (c2 : Nat), e = .returned (.tuple #[.slice a1 (trX o q).length c1, .slice a2 (trY o q).length c2, .int .i64 0]) ∧
      RdS (· < w'.heap.size) w' (trX o q) a1 (trX o q).length c1 ∧ RdS (· < w'.heap.size) w' (trY o q) a2 (trY o q).length c2 ∧ Below w.heap.size w w' :=
  (transform_ok o q a b n c m d w hg h1 h2 (bothE_zero.2 ⟨e1, e2, e3⟩) (tr_laws e1 e2 e3 e4).2.2.2.2.2.2.2.2).mono fun e w' ⟨a1, c1, a2, c2, he, r1, r2, hb⟩ => ⟨a1, c1, a2, c2, he, r1.wide fun b hb => hb.2, r2.wide fun b hb => hb.2, hb⟩

set_option maxRecDepth 100000 in
set_option maxHeartbeats 1000000 in
theorem transform_bad (o q : Op) (a b : Option Addr) (n c m d : Nat) (w : World) (hg : Good w) (h1 : RdS (· < w.heap.size) w o a n c) (h2 : RdS (· < w.heap.size) w q b m d) (hb : bothE o q ≠ 0) :
    Calls Tryd.prog 55 #[.slice a n c, .slice b m d] w fun e w' => e = .returned (.tuple #[.slice none 0 0, .slice none 0 0, .int .i64 (bothE o q)]) ∧ Below w.heap.size w w' := by
  have HB := Lib.hid (both_any o q a b n c m d w hg h1 h2)
  generalize bothE o q = x at *
  have hx : (x == 0) = false := by simpa using hb
  clear h1 h2 hg hb
  go_enter Tryd.func55, Tryd.ntmps55
  go_wp2_with fail
  refine HB.out.mono ?_
  rintro e w1 ⟨rfl, u1⟩
  have U1 := Lib.hid u1
  clear u1 HB
  go_wp2_with fail
  go_ret3
  exact ⟨rfl, U1.out⟩
/-! ### at all operations -/
def trE (o q : Op) : Int := if bothE o q ≠ 0 then bothE o q else fitE (trX o q) (trY o q)
def trA (o q : Op) : Op := if trE o q = 0 then trX o q else []
def trB (o q : Op) : Op := if trE o q = 0 then trY o q else []
/-- what a call of Transform leaves -/
def TrP (o q : Op) (w : World) (e : Ending) (w' : World) : Prop :=
  ∃ (a1 : Option Addr) (c1 : Nat) (a2 : Option Addr) (c2 : Nat), e = .returned (.tuple #[.slice a1 (trA o q).length c1, .slice a2 (trB o q).length c2, .int .i64 (trE o q)]) ∧
    RdS (fun z => w.heap.size ≤ z ∧ z < w'.heap.size) w' (trA o q) a1 (trA o q).length c1 ∧ RdS (fun z => w.heap.size ≤ z ∧ z < w'.heap.size) w' (trB o q) a2 (trB o q).length c2 ∧ Below w.heap.size w w'
theorem transform_tot (o q : Op) (a b : Option Addr) (n c m d : Nat) (w : World) (hg : Good w) (h1 : RdS (· < w.heap.size) w o a n c) (h2 : RdS (· < w.heap.size) w q b m d) :
    Calls Tryd.prog 55 #[.slice a n c, .slice b m d] w (TrP o q w) := by
  by_cases hb : bothE o q = 0
  · refine (transform_any o q a b n c m d w hg h1 h2 hb).mono ?_
    rintro e w' ⟨h3, h4⟩
    have hE : trE o q = fitE (trX o q) (trY o q) := by unfold trE; rw [if_neg (by simpa using hb)]
    by_cases hf : trE o q = 0
    · have hA : trA o q = trX o q := if_pos hf
      have hB : trB o q = trY o q := if_pos hf
      unfold TrP
      rw [hA, hB, hf]
      exact h3 (hE.symm.trans hf)
    · have hA : trA o q = [] := if_neg hf
      have hB : trB o q = [] := if_neg hf
      obtain ⟨rfl, h5⟩ := h4 (fun h => hf (hE.trans h))
      unfold TrP
      rw [hA, hB, hE]
      exact ⟨none, 0, none, 0, rfl, RdS.nil _ _, RdS.nil _ _, h5⟩
  · refine (transform_bad o q a b n c m d w hg h1 h2 hb).mono ?_
    rintro e w' ⟨rfl, h5⟩
    have hE : trE o q = bothE o q := by unfold trE; rw [if_pos hb]
    have hA : trA o q = [] := if_neg (by rw [hE]; exact hb)
    have hB : trB o q = [] := if_neg (by rw [hE]; exact hb)
    unfold TrP
    rw [hA, hB, hE]
    exact ⟨none, 0, none, 0, rfl, RdS.nil _ _, RdS.nil _ _, h5⟩
theorem trE_good {o q : Op} (e1 : check o = 0) (e2 : check q = 0) (e3 : sumF o = sumF q) (e4 : sumT o + sumT q ≤ 4000) : trE o q = 0 := by
  obtain ⟨l1, l2, _⟩ := tr_laws e1 e2 e3 e4
  unfold trE fitE
  rw [if_neg (by rw [bothE_zero.2 ⟨e1, e2, e3⟩]; simp), l1, l2]
  rfl
/-- what was not refused -/
theorem trE_inv {o q : Op} (h : trE o q = 0) : check o = 0 ∧ check q = 0 ∧ sumF o = sumF q ∧ check (trX o q) = 0 ∧ check (trY o q) = 0 ∧ trA o q = trX o q ∧ trB o q = trY o q := by
  have hA : trA o q = trX o q := if_pos h
  have hB : trB o q = trY o q := if_pos h
  unfold trE at h
  by_cases hb : bothE o q = 0
  · rw [if_neg (by simpa using hb)] at h
    obtain ⟨e1, e2, e3⟩ := bothE_zero.1 hb
    unfold fitE at h
    by_cases h1 : check (trX o q) = 0
    · rw [if_neg (by simpa using h1)] at h; exact ⟨e1, e2, e3, h1, h, hA, hB⟩
    · rw [if_pos h1] at h; exact absurd h h1
  · rw [if_pos hb] at h; exact absurd h hb
/-- .. meets -/
theorem trE_laws {o q : Op} (h : trE o q = 0) : sumF (trX o q) = sumT q ∧ sumF (trY o q) = sumT o ∧ sumT (trX o q) = sumT (trY o q) ∧ 0 ≤ sumT (trX o q) ∧
    (∀ t : List Nat, (t.length : Int) = sumF o → app (app t (opP q)) (opP (trX o q)) = app (app t (opP o)) (opP (trY o q))) := by
  obtain ⟨h1, h2, h3, c1, c2, -, -⟩ := trE_inv h
  have hI1 := opIs h1
  have hI2 := opIs h2
  have hFF : FS (opP o) = FS (opP q) := by have := hI1.f; have := hI2.f; omega
  obtain ⟨l1, l2, l3, l4, l5, l6⟩ := xf_laws _ _ _ hI1.ok hI2.ok hFF (Nat.le_refl _)
  have e1 := hI1.t
  have e2 := hI2.t
  have e3 := hI1.f
  have z1 := (check_zero c1).2.2
  have t1 : TS (xf (ZS (opP o) + ZS (opP q)) (opP o) (opP q)).1 ≤ 4000 := by
    have := z1
    unfold trX at this
    rw [opOfP_sumT l1] at this
    omega
  have f1 : FS (xf (ZS (opP o) + ZS (opP q)) (opP o) (opP q)).1 ≤ 4000 := by have := (check_zero h2).2.2; omega
  have f2 : FS (xf (ZS (opP o) + ZS (opP q)) (opP o) (opP q)).2 ≤ 4000 := by have := (check_zero h1).2.2; omega
  unfold trX trY
  refine ⟨by rw [opOfP_sumF]; omega, by rw [opOfP_sumF]; omega, by rw [opOfP_sumT l1, opOfP_sumT l2]; omega, by rw [opOfP_sumT l1]; omega, fun t ht => ?_⟩
  rw [opOfP_app l1 f1 t1, opOfP_app l2 f2 (by omega)]
  exact l6 t (by omega)
end Go.Proofs.YtkhacogeffidoaaDoor
