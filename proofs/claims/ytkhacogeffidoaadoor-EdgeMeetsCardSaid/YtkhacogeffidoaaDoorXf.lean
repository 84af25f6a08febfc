/- Plain: operations over runes: transformed, composed, inverted; and what such an operation does to a text. No program in sight. -/
import Derived.Test.YtkhacogeffidoaaDoorLink
set_option linter.unusedVariables false
set_option linter.unusedSimpArgs false
namespace Go.Proofs.YtkhacogeffidoaaDoor

/-- what is left behind n runes of the first part -/
def pass : List P → Nat → List P
  | [], _ => []
  | p :: r, n => if n = p.z then r else p.cut n :: r
/-- parts added one by one -/
def build (l : List P) : List P := l.foldl addP []
def AllOk (l : List P) : Prop := ∀ p ∈ l, p.ok
def P.Ins : P → Bool
  | .i _ => true
  | _ => false
theorem allOk_cons {p : P} {l : List P} : AllOk (p :: l) ↔ p.ok ∧ AllOk l := by simp [AllOk]
theorem allOk_nil : AllOk [] := by simp [AllOk]
theorem allOk_app {a b : List P} : AllOk (a ++ b) ↔ AllOk a ∧ AllOk b := by simp [AllOk, or_imp, forall_and]
theorem P.ok_z {p : P} (h : p.ok) : 1 ≤ p.z := by
  cases p with
  | k n => exact h
  | i l => have := List.length_pos_iff.2 h.1; exact this
  | d n => exact h
theorem ZS_pos {p : P} {l : List P} (h : p.ok) : 1 ≤ ZS (p :: l) := by have := P.ok_z h; simp only [ZS]; omega
theorem pass_ok {p : P} {l : List P} {n : Nat} (h : AllOk (p :: l)) (hn : n ≤ p.z) : AllOk (pass (p :: l) n) := by
  rw [allOk_cons] at h
  simp only [pass]
  split
  · exact h.2
  · rw [allOk_cons]
    refine ⟨?_, h.2⟩
    cases p with
    | k m => simp only [P.z, P.cut, P.ok] at *; omega
    | d m => simp only [P.z, P.cut, P.ok] at *; omega
    | i t =>
      simp only [P.z, P.cut, P.ok] at *
      refine ⟨fun h0 => ?_, fun r hr => h.1.2 r (List.mem_of_mem_drop hr)⟩
      have := congrArg List.length h0
      simp at this
      omega
theorem P.cut_z (p : P) (n : Nat) : (p.cut n).z = p.z - n := by cases p <;> simp [P.cut, P.z]
theorem pass_Z {p : P} {l : List P} {n : Nat} (hn : n ≤ p.z) : ZS (pass (p :: l) n) + n = ZS (p :: l) := by
  simp only [pass]
  split
  · simp only [ZS]; omega
  · simp only [ZS, P.cut_z]; omega
theorem P.F_noins {p : P} (h : p.Ins = false) : p.F = p.z := by cases p <;> simp_all [P.F, P.z, P.Ins]
theorem pass_F {p : P} {l : List P} {n : Nat} (hp : p.Ins = false) (hn : n ≤ p.z) : FS (pass (p :: l) n) + n = FS (p :: l) := by
  simp only [pass]
  split
  · simp only [FS, P.F_noins hp]; omega
  · cases p with
    | k m => simp only [FS, P.cut, P.F, P.z] at *; omega
    | d m => simp only [FS, P.cut, P.F, P.z] at *; omega
    | i t => cases hp
theorem pass_eq {p : P} {l : List P} {n : Nat} (h : n = p.z) : pass (p :: l) n = l := by simp only [pass, if_pos h]
theorem pass_ne {p : P} {l : List P} {n : Nat} (h : n ≠ p.z) : pass (p :: l) n = p.cut n :: l := by simp only [pass, if_neg h]
theorem pass_k {m n : Nat} {l : List P} (h : n ≤ m) (t : List Nat) : app t (.k m :: l) = t.take n ++ app (t.drop n) (pass (.k m :: l) n) := by
  by_cases hz : n = m
  · rw [pass_eq (p := .k m) hz]; subst hz; rfl
  · rw [pass_ne (p := .k m) hz]
    simp only [P.cut, app, List.drop_drop, ← List.append_assoc]
    rw [show t.take m = t.take n ++ (t.drop n).take (m - n) from by rw [← List.take_add]; congr 1; omega, show n + (m - n) = m from by omega]
theorem pass_d {m n : Nat} {l : List P} (h : n ≤ m) (t : List Nat) : app t (.d m :: l) = app (t.drop n) (pass (.d m :: l) n) := by
  by_cases hz : n = m
  · rw [pass_eq (p := .d m) hz]; subst hz; rfl
  · rw [pass_ne (p := .d m) hz]
    simp only [P.cut, app, List.drop_drop]; rw [show n + (m - n) = m from by omega]
theorem pass_i {n : Nat} {l : List Nat} {r : List P} (h : n ≤ l.length) (t : List Nat) : app t (.i l :: r) = l.take n ++ app t (pass (.i l :: r) n) := by
  by_cases hz : n = l.length
  · rw [pass_eq (p := .i l) hz]; subst hz; simp [app]
  · rw [pass_ne (p := .i l) hz]
    simp only [P.cut, app, ← List.append_assoc, List.take_append_drop]
theorem pass_Tk {m n : Nat} {l : List P} (h : n ≤ m) : TS (pass (.k m :: l) n) + n = TS (.k m :: l) := by
  by_cases hz : n = m
  · rw [pass_eq (p := .k m) hz]; simp only [TS, P.T]; omega
  · rw [pass_ne (p := .k m) hz]; simp only [TS, P.cut, P.T]; omega
theorem pass_Td {m n : Nat} {l : List P} : TS (pass (.d m :: l) n) = TS (.d m :: l) := by
  by_cases hz : n = m
  · rw [pass_eq (p := .d m) hz]; simp only [TS, P.T]; omega
  · rw [pass_ne (p := .d m) hz]; simp only [TS, P.cut, P.T]
theorem pass_Ti {n : Nat} {t : List Nat} {l : List P} (h : n ≤ t.length) : TS (pass (.i t :: l) n) + n = TS (.i t :: l) := by
  by_cases hz : n = t.length
  · rw [pass_eq (p := .i t) hz]; simp only [TS, P.T]; omega
  · rw [pass_ne (p := .i t) hz]; simp only [TS, P.cut, P.T, List.length_drop]; omega
theorem pass_Fi {n : Nat} {t : List Nat} {l : List P} : FS (pass (.i t :: l) n) = FS (.i t :: l) := by
  by_cases hz : n = t.length
  · rw [pass_eq (p := .i t) hz]; simp only [FS, P.F]; omega
  · rw [pass_ne (p := .i t) hz]; simp only [FS, P.cut, P.F]

/-! ### what is built -/
theorem foldl_can (l : List P) : ∀ r : List P, Can r → (∀ p ∈ l, ∀ t, p = .i t → ∀ r ∈ t, Uni.vr r) → Can (l.foldl addP r) := by
  induction l with
  | nil => intro r h _; exact h
  | cons p l ih => intro r h hl; exact ih _ (addP_can p (fun t ht => hl p (List.mem_cons_self ..) t ht) r h) (fun q hq => hl q (List.mem_cons_of_mem _ hq))
theorem ok_vr {p : P} (h : p.ok) : ∀ t, p = .i t → ∀ r ∈ t, Uni.vr r := by rintro t rfl; exact h.2
theorem build_can {l : List P} (h : AllOk l) : Can (build l) := foldl_can l [] trivial (fun p hp => ok_vr (h p hp))
theorem foldl_FS (l : List P) : ∀ r : List P, FS (l.foldl addP r) = FS r + FS l := by
  induction l with
  | nil => intro r; simp [FS]
  | cons p l ih => intro r; simp only [List.foldl_cons, ih, FS_addP, FS]; omega
theorem foldl_TS (l : List P) : ∀ r : List P, TS (l.foldl addP r) = TS r + TS l := by
  induction l with
  | nil => intro r; simp [TS]
  | cons p l ih => intro r; simp only [List.foldl_cons, ih, TS_addP, TS]; omega
theorem build_FS (l : List P) : FS (build l) = FS l := by simp [build, foldl_FS, FS]
theorem build_TS (l : List P) : TS (build l) = TS l := by simp [build, foldl_TS, TS]
theorem foldl_app (l : List P) : ∀ (r : List P) (t : List Nat), app t (l.foldl addP r).reverse = app t (r.reverse ++ l) := by
  induction l with
  | nil => intro r t; simp
  | cons p l ih =>
    intro r t
    rw [List.foldl_cons, ih, app_app, app_addP, FS_rev, FS_addP, List.reverse_cons, app_app, FS_rev, app_app, FS_rev]
    cases p <;> simp [app, P.F, List.append_assoc]
theorem build_app (l : List P) (t : List Nat) : app t (build l).reverse = app t l := by simp [build, foldl_app]
theorem build_len {l : List P} (h : AllOk l) : (build l).length ≤ FS l + TS l := by
  have := ok_len (build l) (build_can h).all
  rw [build_FS, build_TS] at this; exact this
/-- the operation that parts make -/
def opOfP (l : List P) : Op := (build l).reverse.map P.part
theorem opOfP_is {l : List P} (h : AllOk l) (hf : FS l ≤ 4000) (ht : TS l ≤ 4000) : OpIs (opOfP l) (build l).reverse :=
  opIs_of (build_can h) (by rw [build_FS]; exact hf) (by rw [build_TS]; exact ht)
theorem opOfP_check {l : List P} (h : AllOk l) (hf : FS l ≤ 4000) (ht : TS l ≤ 4000) : check (opOfP l) = 0 := (opOfP_is h hf ht).check
theorem opOfP_sumF {l : List P} : sumF (opOfP l) = FS l := by unfold opOfP; rw [sumF_parts, FS_rev, build_FS]
theorem opOfP_sumT {l : List P} (h : AllOk l) : sumT (opOfP l) = TS l := by
  unfold opOfP; rw [sumT_parts _ (fun p hp => (build_can h).all p (by simpa using hp)), TS_rev, build_TS]
theorem opOfP_opP {l : List P} (h : AllOk l) (hf : FS l ≤ 4000) (ht : TS l ≤ 4000) : opP (opOfP l) = (build l).reverse := (opOfP_is h hf ht).opP
theorem opOfP_app {l : List P} (h : AllOk l) (hf : FS l ≤ 4000) (ht : TS l ≤ 4000) (t : List Nat) : app t (opP (opOfP l)) = app t l := by rw [opOfP_opP h hf ht, build_app]

/-! ### transformed -/
def xe1 : P → P → Nat → List P
  | .k _, .k _, n => [.k n]
  | .d _, .k _, n => [.d n]
  | _, _, _ => []
def xe2 : P → P → Nat → List P
  | .k _, .k _, n => [.k n]
  | .k _, .d _, n => [.d n]
  | _, _, _ => []
/-- two operations of one text, each as it is behind the other one: the parts, as they come -/
def xf : Nat → List P → List P → List P × List P
  | 0, _, _ => ([], [])
  | f + 1, .i t :: a, b => (.i t :: (xf f a b).1, .k t.length :: (xf f a b).2)
  | f + 1, a, .i t :: b => (.k t.length :: (xf f a b).1, .i t :: (xf f a b).2)
  | f + 1, x :: a, y :: b =>
    (xe1 x y (min x.z y.z) ++ (xf f (pass (x :: a) (min x.z y.z)) (pass (y :: b) (min x.z y.z))).1,
     xe2 x y (min x.z y.z) ++ (xf f (pass (x :: a) (min x.z y.z)) (pass (y :: b) (min x.z y.z))).2)
  | _ + 1, _, _ => ([], [])
theorem xf_i1 (f : Nat) (t : List Nat) (a b : List P) : xf (f + 1) (.i t :: a) b = (.i t :: (xf f a b).1, .k t.length :: (xf f a b).2) := by
  simp only [xf]
theorem xf_i2 (f : Nat) (t : List Nat) (a b : List P) (h : ∀ u r, a ≠ .i u :: r) : xf (f + 1) a (.i t :: b) = (.k t.length :: (xf f a b).1, .i t :: (xf f a b).2) := by
  cases a with
  | nil => simp only [xf]
  | cons x a => cases x <;> first | exact absurd rfl (h _ _) | simp only [xf]
theorem xf_2 (f : Nat) (x y : P) (a b : List P) (hx : x.Ins = false) (hy : y.Ins = false) : xf (f + 1) (x :: a) (y :: b) =
    (xe1 x y (min x.z y.z) ++ (xf f (pass (x :: a) (min x.z y.z)) (pass (y :: b) (min x.z y.z))).1,
     xe2 x y (min x.z y.z) ++ (xf f (pass (x :: a) (min x.z y.z)) (pass (y :: b) (min x.z y.z))).2) := by
  cases x <;> cases y <;> first | (simp only [xf]; done) | (cases hx; done) | (cases hy; done)
theorem FS_zero {l : List P} (h : AllOk l) (hf : FS l = 0) : l = [] ∨ ∃ t r, l = .i t :: r := by
  cases l with
  | nil => exact .inl rfl
  | cons p l =>
    refine .inr ?_
    rw [allOk_cons] at h
    cases p with
    | k n => simp only [FS, P.F] at hf; have := h.1; simp only [P.ok] at this; omega
    | d n => simp only [FS, P.F] at hf; have := h.1; simp only [P.ok] at this; omega
    | i t => exact ⟨t, l, rfl⟩
/-- the ways in which two operations of one text begin -/
theorem two_ways {a b : List P} (ha : AllOk a) (hb : AllOk b) (h : FS a = FS b) :
    (a = [] ∧ b = []) ∨ (∃ t r, a = .i t :: r) ∨ (∃ t r, b = .i t :: r ∧ ∀ u s, a ≠ .i u :: s) ∨ (∃ x r y s, a = x :: r ∧ b = y :: s ∧ x.Ins = false ∧ y.Ins = false) := by
  cases a with
  | nil =>
    rcases FS_zero hb (by simpa [FS] using h.symm) with rfl | ⟨t, r, rfl⟩
    · exact .inl ⟨rfl, rfl⟩
    · exact .inr (.inr (.inl ⟨t, r, rfl, by simp⟩))
  | cons x a =>
    cases hx : x.Ins with
    | true =>
      cases x with
      | i t => exact .inr (.inl ⟨t, a, rfl⟩)
      | k n => cases hx
      | d n => cases hx
    | false =>
      have hne : ∀ u s, x :: a ≠ .i u :: s := by
        intro u s he
        simp only [List.cons.injEq] at he
        rw [he.1] at hx; cases hx
      cases b with
      | nil =>
        rcases FS_zero ha (by simpa [FS] using h) with h | ⟨t, r, h⟩
        · cases h
        · exact absurd h (hne t r)
      | cons y b =>
        cases hy : y.Ins with
        | true =>
          cases y with
          | i t => exact .inr (.inr (.inl ⟨t, b, rfl, hne⟩))
          | k n => cases hy
          | d n => cases hy
        | false => exact .inr (.inr (.inr ⟨x, a, y, b, rfl, rfl, hx, hy⟩))
theorem xe_ok {x y : P} {n : Nat} (h : 1 ≤ n) : AllOk (xe1 x y n) ∧ AllOk (xe2 x y n) := by
  cases x <;> cases y <;> simp [xe1, xe2, AllOk, P.ok] <;> omega
theorem xf_laws (f : Nat) : ∀ a b : List P, AllOk a → AllOk b → FS a = FS b → ZS a + ZS b ≤ f →
    AllOk (xf f a b).1 ∧ AllOk (xf f a b).2 ∧ FS (xf f a b).1 = TS b ∧ FS (xf f a b).2 = TS a ∧ TS (xf f a b).1 = TS (xf f a b).2 ∧
    (∀ t : List Nat, t.length = FS a → app (app t b) (xf f a b).1 = app (app t a) (xf f a b).2) := by
  induction f with
  | zero =>
    intro a b ha hb h hz
    have h1 : a = [] := by
      cases a with
      | nil => rfl
      | cons p a => have := ZS_pos (l := a) ((allOk_cons.1 ha).1); omega
    have h2 : b = [] := by
      cases b with
      | nil => rfl
      | cons p b => have := ZS_pos (l := b) ((allOk_cons.1 hb).1); omega
    subst h1 h2
    simp [xf, AllOk, FS, TS, app]
  | succ f ih =>
    intro a b ha hb h hz
    rcases two_ways ha hb h with ⟨rfl, rfl⟩ | ⟨t, r, rfl⟩ | ⟨t, r, rfl, hne⟩ | ⟨x, r, y, s, rfl, rfl, hx, hy⟩
    · simp [xf, AllOk, FS, TS, app]
    · obtain ⟨h1, h2⟩ := allOk_cons.1 ha
      have hp := P.ok_z h1
      simp only [ZS, P.z] at hz hp
      obtain ⟨i1, i2, i3, i4, i5, i6⟩ := ih r b h2 hb (by simpa [FS, P.F] using h) (by omega)
      rw [xf_i1]
      refine ⟨allOk_cons.2 ⟨h1, i1⟩, allOk_cons.2 ⟨hp, i2⟩, ?_, ?_, ?_, fun u hu => ?_⟩
      · simp only [FS, P.F]; omega
      · simp only [FS, P.F, TS, P.T]; omega
      · simp only [TS, P.T]; omega
      · simp only [app]
        rw [List.take_left, List.drop_left, i6 u (by simpa [FS, P.F] using hu)]
    · obtain ⟨h1, h2⟩ := allOk_cons.1 hb
      have hp := P.ok_z h1
      simp only [ZS, P.z] at hz hp
      obtain ⟨i1, i2, i3, i4, i5, i6⟩ := ih a r ha h2 (by simpa [FS, P.F] using h) (by omega)
      rw [xf_i2 _ _ _ _ hne]
      refine ⟨allOk_cons.2 ⟨hp, i1⟩, allOk_cons.2 ⟨h1, i2⟩, ?_, ?_, ?_, fun u hu => ?_⟩
      · simp only [FS, P.F, TS, P.T]; omega
      · simp only [FS, P.F]; omega
      · simp only [TS, P.T]; omega
      · simp only [app]
        rw [List.take_left, List.drop_left, i6 u hu]
    · obtain ⟨ox, hr⟩ := allOk_cons.1 ha
      obtain ⟨oy, hs⟩ := allOk_cons.1 hb
      have zx := P.ok_z ox
      have zy := P.ok_z oy
      have hn : 1 ≤ min x.z y.z := by omega
      have hnx : min x.z y.z ≤ x.z := Nat.min_le_left _ _
      have hny : min x.z y.z ≤ y.z := Nat.min_le_right _ _
      rw [xf_2 _ _ _ _ _ hx hy]
      generalize min x.z y.z = n at *
      have za := pass_Z (l := r) hnx
      have zb := pass_Z (l := s) hny
      have fa := pass_F (l := r) hx hnx
      have fb := pass_F (l := s) hy hny
      obtain ⟨i1, i2, i3, i4, i5, i6⟩ := ih _ _ (pass_ok ha hnx) (pass_ok hb hny) (by omega) (by omega)
      have ho := xe_ok (x := x) (y := y) hn
      refine ⟨allOk_app.2 ⟨ho.1, i1⟩, allOk_app.2 ⟨ho.2, i2⟩, ?_⟩
      cases x with
      | i t => cases hx
      | k m =>
        cases y with
        | i t => cases hy
        | k m' =>
          simp only [P.z] at hnx hny
          have ta := pass_Tk (l := r) hnx
          have tb := pass_Tk (l := s) hny
          simp only [xe1, xe2, List.cons_append, List.nil_append, FS, TS, P.F, P.T] at *
          refine ⟨by omega, by omega, by omega, fun u hu => ?_⟩
          rw [pass_k hnx u, pass_k hny u]
          have hl : (u.take n).length = n := by rw [List.length_take]; omega
          simp only [app]
          rw [List.take_left' hl, List.drop_left' hl, List.take_left' hl, List.drop_left' hl, i6 (u.drop n) (by rw [List.length_drop]; omega)]
        | d m' =>
          simp only [P.z] at hnx hny
          have ta := pass_Tk (l := r) hnx
          have tb := pass_Td (m := m') (n := n) (l := s)
          simp only [xe1, xe2, List.cons_append, List.nil_append, FS, TS, P.F, P.T] at *
          refine ⟨by omega, by omega, by omega, fun u hu => ?_⟩
          rw [pass_k hnx u, pass_d hny u]
          have hl : (u.take n).length = n := by rw [List.length_take]; omega
          simp only [app]
          rw [List.drop_left' hl, i6 (u.drop n) (by rw [List.length_drop]; omega)]
      | d m =>
        cases y with
        | i t => cases hy
        | k m' =>
          simp only [P.z] at hnx hny
          have ta := pass_Td (m := m) (n := n) (l := r)
          have tb := pass_Tk (l := s) hny
          simp only [xe1, xe2, List.cons_append, List.nil_append, FS, TS, P.F, P.T] at *
          refine ⟨by omega, by omega, by omega, fun u hu => ?_⟩
          rw [pass_d hnx u, pass_k hny u]
          have hl : (u.take n).length = n := by rw [List.length_take]; omega
          simp only [app]
          rw [List.drop_left' hl, i6 (u.drop n) (by rw [List.length_drop]; omega)]
        | d m' =>
          simp only [P.z] at hnx hny
          have ta := pass_Td (m := m) (n := n) (l := r)
          have tb := pass_Td (m := m') (n := n) (l := s)
          simp only [xe1, xe2, List.nil_append, FS, TS, P.F, P.T] at *
          refine ⟨by omega, by omega, by omega, fun u hu => ?_⟩
          rw [pass_d hnx u, pass_d hny u, i6 (u.drop n) (by rw [List.length_drop]; omega)]

/-! ### composed -/
def ce : P → P → Nat → List P
  | .k _, .k _, n => [.k n]
  | .i t, .k _, n => [.i (t.take n)]
  | .k _, .d _, n => [.d n]
  | _, _, _ => []
def cf : Nat → List P → List P → List P
  | 0, _, _ => []
  | f + 1, .d m :: a, b => .d m :: cf f a b
  | f + 1, a, .i t :: b => .i t :: cf f a b
  | f + 1, x :: a, y :: b => ce x y (min x.z y.z) ++ cf f (pass (x :: a) (min x.z y.z)) (pass (y :: b) (min x.z y.z))
  | _ + 1, _, _ => []
def P.Del : P → Bool
  | .d _ => true
  | _ => false
theorem cf_d (f m : Nat) (a b : List P) : cf (f + 1) (.d m :: a) b = .d m :: cf f a b := by simp only [cf]
theorem cf_i (f : Nat) (t : List Nat) (a b : List P) (h : ∀ u r, a ≠ .d u :: r) : cf (f + 1) a (.i t :: b) = .i t :: cf f a b := by
  cases a with
  | nil => simp only [cf]
  | cons x a => cases x <;> first | exact absurd rfl (h _ _) | simp only [cf]
theorem cf_2 (f : Nat) (x y : P) (a b : List P) (hx : x.Del = false) (hy : y.Ins = false) : cf (f + 1) (x :: a) (y :: b) =
    ce x y (min x.z y.z) ++ cf f (pass (x :: a) (min x.z y.z)) (pass (y :: b) (min x.z y.z)) := by
  cases x <;> cases y <;> first | (simp only [cf]; done) | (cases hx; done) | (cases hy; done)
theorem TS_zero {l : List P} (h : AllOk l) (hf : TS l = 0) : l = [] ∨ ∃ m r, l = .d m :: r := by
  cases l with
  | nil => exact .inl rfl
  | cons p l =>
    refine .inr ?_
    rw [allOk_cons] at h
    have hz := P.ok_z h.1
    cases p with
    | k n => simp only [TS, P.T, P.z] at *; omega
    | i t => simp only [TS, P.T, P.z] at *; omega
    | d m => exact ⟨m, l, rfl⟩
theorem two_ways' {a b : List P} (ha : AllOk a) (hb : AllOk b) (h : TS a = FS b) :
    (a = [] ∧ b = []) ∨ (∃ t r, a = .d t :: r) ∨ (∃ t r, b = .i t :: r ∧ ∀ u s, a ≠ .d u :: s) ∨ (∃ x r y s, a = x :: r ∧ b = y :: s ∧ x.Del = false ∧ y.Ins = false) := by
  cases a with
  | nil =>
    rcases FS_zero hb (by simpa [TS] using h.symm) with rfl | ⟨t, r, rfl⟩
    · exact .inl ⟨rfl, rfl⟩
    · exact .inr (.inr (.inl ⟨t, r, rfl, by simp⟩))
  | cons x a =>
    cases hx : x.Del with
    | true =>
      cases x with
      | d t => exact .inr (.inl ⟨t, a, rfl⟩)
      | k n => cases hx
      | i n => cases hx
    | false =>
      have hne : ∀ u s, x :: a ≠ .d u :: s := by
        intro u s he
        simp only [List.cons.injEq] at he
        rw [he.1] at hx; cases hx
      cases b with
      | nil =>
        rcases TS_zero ha (by simpa [FS] using h) with h | ⟨t, r, h⟩
        · cases h
        · exact absurd h (hne t r)
      | cons y b =>
        cases hy : y.Ins with
        | true =>
          cases y with
          | i t => exact .inr (.inr (.inl ⟨t, b, rfl, hne⟩))
          | k n => cases hy
          | d n => cases hy
        | false => exact .inr (.inr (.inr ⟨x, a, y, b, rfl, rfl, hx, hy⟩))
theorem ce_ok {x y : P} {n : Nat} (h : 1 ≤ n) (hx : x.ok) : AllOk (ce x y n) := by
  cases x <;> cases y <;> simp [ce, AllOk, P.ok] at * <;> try omega
  rename_i t m
  exact ⟨⟨by omega, hx.1⟩, fun r hr => hx.2 r (List.mem_of_mem_take hr)⟩
theorem cf_laws (f : Nat) : ∀ a b : List P, AllOk a → AllOk b → TS a = FS b → ZS a + ZS b ≤ f →
    AllOk (cf f a b) ∧ FS (cf f a b) = FS a ∧ TS (cf f a b) = TS b ∧ (∀ t : List Nat, t.length = FS a → app (app t a) b = app t (cf f a b)) := by
  induction f with
  | zero =>
    intro a b ha hb h hz
    have h1 : a = [] := by
      cases a with
      | nil => rfl
      | cons p a => have := ZS_pos (l := a) ((allOk_cons.1 ha).1); omega
    have h2 : b = [] := by
      cases b with
      | nil => rfl
      | cons p b => have := ZS_pos (l := b) ((allOk_cons.1 hb).1); omega
    subst h1 h2
    simp [cf, AllOk, FS, TS, app]
  | succ f ih =>
    intro a b ha hb h hz
    rcases two_ways' ha hb h with ⟨rfl, rfl⟩ | ⟨t, r, rfl⟩ | ⟨t, r, rfl, hne⟩ | ⟨x, r, y, s, rfl, rfl, hx, hy⟩
    · simp [cf, AllOk, FS, TS, app]
    · obtain ⟨h1, h2⟩ := allOk_cons.1 ha
      have hp := P.ok_z h1
      simp only [ZS, P.z] at hz hp
      obtain ⟨i1, i3, i4, i6⟩ := ih r b h2 hb (by simpa [TS, P.T] using h) (by omega)
      rw [cf_d]
      refine ⟨allOk_cons.2 ⟨h1, i1⟩, ?_, ?_, fun u hu => ?_⟩
      · simp only [FS, P.F]; omega
      · simp only [TS, P.T]; omega
      · simp only [app]
        exact i6 _ (by simp only [FS, P.F] at hu; rw [List.length_drop]; omega)
    · obtain ⟨h1, h2⟩ := allOk_cons.1 hb
      have hp := P.ok_z h1
      simp only [ZS, P.z] at hz hp
      obtain ⟨i1, i3, i4, i6⟩ := ih a r ha h2 (by simpa [FS, P.F] using h) (by omega)
      rw [cf_i _ _ _ _ hne]
      refine ⟨allOk_cons.2 ⟨h1, i1⟩, ?_, ?_, fun u hu => ?_⟩
      · simp only [FS, P.F]; omega
      · simp only [TS, P.T]; omega
      · simp only [app]
        rw [i6 u hu]
    · obtain ⟨ox, hr⟩ := allOk_cons.1 ha
      obtain ⟨oy, hs⟩ := allOk_cons.1 hb
      have zx := P.ok_z ox
      have zy := P.ok_z oy
      have hn : 1 ≤ min x.z y.z := by omega
      have hnx : min x.z y.z ≤ x.z := Nat.min_le_left _ _
      have hny : min x.z y.z ≤ y.z := Nat.min_le_right _ _
      rw [cf_2 _ _ _ _ _ hx hy]
      generalize min x.z y.z = n at *
      have za := pass_Z (l := r) hnx
      have zb := pass_Z (l := s) hny
      have fb := pass_F (l := s) hy hny
      have ho := ce_ok (x := x) (y := y) hn ox
      have oa := pass_ok ha hnx
      have ob := pass_ok hb hny
      cases x with
      | d t => cases hx
      | k m =>
        simp only [P.z] at hnx
        have ta := pass_Tk (l := r) hnx
        have fa := pass_F (p := .k m) (l := r) rfl hnx
        obtain ⟨i1, i3, i4, i6⟩ := ih _ _ oa ob (by omega) (by omega)
        refine ⟨allOk_app.2 ⟨ho, i1⟩, ?_⟩
        cases y with
        | i t => cases hy
        | k m' =>
          simp only [P.z] at hny
          have tb := pass_Tk (l := s) hny
          simp only [ce, List.cons_append, List.nil_append, FS, TS, P.F, P.T] at *
          refine ⟨by omega, by omega, fun u hu => ?_⟩
          rw [pass_k hnx u, pass_k hny (u.take n ++ _)]
          have hl : (u.take n).length = n := by rw [List.length_take]; omega
          simp only [app]
          rw [List.take_left' hl, List.drop_left' hl, i6 (u.drop n) (by rw [List.length_drop]; omega)]
        | d m' =>
          simp only [P.z] at hny
          have tb := pass_Td (m := m') (n := n) (l := s)
          simp only [ce, List.cons_append, List.nil_append, FS, TS, P.F, P.T] at *
          refine ⟨by omega, by omega, fun u hu => ?_⟩
          rw [pass_k hnx u, pass_d hny (u.take n ++ _)]
          have hl : (u.take n).length = n := by rw [List.length_take]; omega
          simp only [app]
          rw [List.drop_left' hl, i6 (u.drop n) (by rw [List.length_drop]; omega)]
      | i t =>
        simp only [P.z] at hnx
        have ta := pass_Ti (l := r) hnx
        have fa := pass_Fi (n := n) (t := t) (l := r)
        obtain ⟨i1, i3, i4, i6⟩ := ih _ _ oa ob (by omega) (by omega)
        refine ⟨allOk_app.2 ⟨ho, i1⟩, ?_⟩
        have hl : (t.take n).length = n := by rw [List.length_take]; omega
        cases y with
        | i t => cases hy
        | k m' =>
          simp only [P.z] at hny
          have tb := pass_Tk (l := s) hny
          simp only [ce, List.cons_append, List.nil_append, FS, TS, P.F, P.T] at *
          refine ⟨by omega, by omega, fun u hu => ?_⟩
          rw [pass_i hnx u, pass_k hny (t.take n ++ _)]
          simp only [app]
          rw [List.take_left' hl, List.drop_left' hl, i6 u (by omega)]
        | d m' =>
          simp only [P.z] at hny
          have tb := pass_Td (m := m') (n := n) (l := s)
          simp only [ce, List.nil_append, FS, TS, P.F, P.T] at *
          refine ⟨by omega, by omega, fun u hu => ?_⟩
          rw [pass_i hnx u, pass_d hny (t.take n ++ _)]
          rw [List.drop_left' hl, i6 u (by omega)]

/-! ### inverted -/
def iv : List Nat → List P → List P
  | _, [] => []
  | t, .k n :: r => .k n :: iv (t.drop n) r
  | t, .i l :: r => .d l.length :: iv t r
  | t, .d n :: r => .i (t.take n) :: iv (t.drop n) r
theorem iv_laws (o : List P) : ∀ t : List Nat, t.length = FS o → AllOk o → (∀ r ∈ t, Uni.vr r) →
    AllOk (iv t o) ∧ FS (iv t o) = TS o ∧ TS (iv t o) = FS o ∧ app (app t o) (iv t o) = t := by
  induction o with
  | nil => intro t ht _ _; simp [FS] at ht; subst ht; simp [iv, AllOk, FS, TS, app]
  | cons p o ih =>
    intro t ht ho hv
    obtain ⟨op, oo⟩ := allOk_cons.1 ho
    cases p with
    | k n =>
      simp only [FS, P.F] at ht
      obtain ⟨i1, i2, i3, i4⟩ := ih (t.drop n) (by rw [List.length_drop]; omega) oo (fun r hr => hv r (List.mem_of_mem_drop hr))
      have hl : (t.take n).length = n := by rw [List.length_take]; omega
      simp only [iv, FS, TS, P.F, P.T, app]
      refine ⟨allOk_cons.2 ⟨op, i1⟩, by omega, by omega, ?_⟩
      rw [List.take_left' hl, List.drop_left' hl, i4, List.take_append_drop]
    | i l =>
      simp only [FS, P.F, Nat.zero_add] at ht
      obtain ⟨i1, i2, i3, i4⟩ := ih t ht oo hv
      simp only [iv, FS, TS, P.F, P.T, app]
      refine ⟨allOk_cons.2 ⟨P.ok_z op, i1⟩, by omega, by omega, ?_⟩
      rw [List.drop_left, i4]
    | d n =>
      simp only [FS, P.F] at ht
      obtain ⟨i1, i2, i3, i4⟩ := ih (t.drop n) (by rw [List.length_drop]; omega) oo (fun r hr => hv r (List.mem_of_mem_drop hr))
      have hl : (t.take n).length = n := by rw [List.length_take]; omega
      simp only [P.ok] at op
      simp only [iv, FS, TS, P.F, P.T, app]
      refine ⟨allOk_cons.2 ⟨⟨fun h => ?_, fun r hr => hv r (List.mem_of_mem_take hr)⟩, i1⟩, by omega, by omega, ?_⟩
      · rw [h] at hl; simp at hl; omega
      · rw [i4, List.take_append_drop]
end Go.Proofs.YtkhacogeffidoaaDoor
