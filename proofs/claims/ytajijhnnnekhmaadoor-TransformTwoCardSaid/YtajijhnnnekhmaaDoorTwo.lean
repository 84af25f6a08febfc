/- Plain: behind two that do not insert an operation is as it is behind both in one. No program in sight. -/
import Derived.Test.YtajijhnnnekhmaaDoorInv
import Derived.Test.YtajijhnnnekhmaaDoorCo
import Derived.Test.YtajijhnnnekhmaaDoorTrLaw
set_option linter.unusedSimpArgs false
namespace Go.Proofs.YtajijhnnnekhmaaDoor
open Go.RowKit

/-- parts of one rune each, but for what is inserted -/
def exP : P → List P
  | .k n => List.replicate n (.k 1)
  | .d n => List.replicate n (.d 1)
  | .i t => [.i t]
def ex (l : List P) : List P := l.flatMap exP
def bxP : P → List Bool
  | .k n => List.replicate n true
  | .d n => List.replicate n false
  | .i _ => []
def bx (l : List P) : List Bool := l.flatMap bxP
theorem ex_cons (p : P) (l : List P) : ex (p :: l) = exP p ++ ex l := by simp [ex]
theorem bx_cons (p : P) (l : List P) : bx (p :: l) = bxP p ++ bx l := by simp [bx]
theorem ex_app (a b : List P) : ex (a ++ b) = ex a ++ ex b := by simp [ex]
theorem bx_app (a b : List P) : bx (a ++ b) = bx a ++ bx b := by simp [bx]
def TA : List P → List Bool → List P
  | [], _ => []
  | .i t :: a, xs => .i t :: TA a xs
  | .k n :: a, xs => if xs.headD false then .k n :: TA a xs.tail else TA a xs.tail
  | .d n :: a, xs => if xs.headD false then .d n :: TA a xs.tail else TA a xs.tail
def TX : List P → List Bool → List Bool
  | [], _ => []
  | .i t :: a, xs => List.replicate t.length true ++ TX a xs
  | .k _ :: a, xs => xs.headD false :: TX a xs.tail
  | .d _ :: a, xs => TX a xs.tail
def CC : List Bool → List Bool → List Bool
  | [], _ => []
  | false :: xs, ys => false :: CC xs ys
  | true :: xs, ys => ys.headD false :: CC xs ys.tail
/-- how many parts are none that insert -/
def UN : List P → Nat
  | [] => 0
  | .i _ :: a => UN a
  | .k _ :: a => UN a + 1
  | .d _ :: a => UN a + 1
theorem UN_app (a b : List P) : UN (a ++ b) = UN a + UN b := by
  induction a with
  | nil => simp [UN]
  | cons p a ih => cases p <;> simp [UN, ih] <;> omega
theorem UN_k (n : Nat) : UN (List.replicate n (.k 1)) = n := by
  induction n with
  | zero => rfl
  | succ n ih => rw [List.replicate_succ]; simp [UN, ih]
theorem UN_d (n : Nat) : UN (List.replicate n (.d 1)) = n := by
  induction n with
  | zero => rfl
  | succ n ih => rw [List.replicate_succ]; simp [UN, ih]
theorem UN_ex (l : List P) : UN (ex l) = FS l := by
  induction l with
  | nil => rfl
  | cons p l ih => rw [ex_cons, UN_app, ih]; cases p <;> simp [exP, UN_k, UN_d, UN, FS, P.F]
theorem law1 (a : List P) : ∀ xs ys : List Bool, UN a = xs.length → TA (TA a xs) ys = TA a (CC xs ys) := by
  induction a with
  | nil => intro xs ys _; simp [TA]
  | cons p a ih =>
    intro xs ys h
    cases p with
    | i t => simp only [TA, UN] at h ⊢; rw [ih xs ys h]
    | k n =>
      cases xs with
      | nil => simp [UN] at h
      | cons x xs =>
        simp only [UN, List.length_cons] at h
        cases x <;> simp [TA, CC, ih xs _ (by omega)]
    | d n =>
      cases xs with
      | nil => simp [UN] at h
      | cons x xs =>
        simp only [UN, List.length_cons] at h
        cases x <;> simp [TA, CC, ih xs _ (by omega)]
theorem CC_true (n : Nat) (u v : List Bool) : CC (List.replicate n true ++ u) (List.replicate n true ++ v) = List.replicate n true ++ CC u v := by
  induction n with
  | zero => simp
  | succ n ih => simp only [List.replicate_succ, List.cons_append, CC, List.headD_cons, List.tail_cons, ih]
theorem CC_tb (b : Bool) (n : Nat) (u v : List Bool) : CC (List.replicate n true ++ u) (List.replicate n b ++ v) = List.replicate n b ++ CC u v := by
  induction n with
  | zero => simp
  | succ n ih => simp only [List.replicate_succ, List.cons_append, CC, List.headD_cons, List.tail_cons, ih]
theorem CC_false (n : Nat) (u v : List Bool) : CC (List.replicate n false ++ u) v = List.replicate n false ++ CC u v := by
  induction n with
  | zero => simp
  | succ n ih => simp only [List.replicate_succ, List.cons_append, CC, ih]
theorem law2 (a : List P) : ∀ xs ys : List Bool, UN a = xs.length → CC (TX a xs) (TX (TA a xs) ys) = TX a (CC xs ys) := by
  induction a with
  | nil => intro xs ys _; simp [TX, TA, CC]
  | cons p a ih =>
    intro xs ys h
    cases p with
    | i t => simp only [TA, TX, UN] at h ⊢; rw [CC_true, ih xs ys h]
    | k n =>
      cases xs with
      | nil => simp [UN] at h
      | cons x xs =>
        simp only [UN, List.length_cons] at h
        cases x <;> simp [TA, TX, CC, ih xs _ (by omega)]
    | d n =>
      cases xs with
      | nil => simp [UN] at h
      | cons x xs =>
        simp only [UN, List.length_cons] at h
        cases x <;> simp [TA, TX, CC, ih xs _ (by omega)]
theorem TA_app (a : List P) : ∀ (b : List P) (xs : List Bool), TA (a ++ b) xs = TA a xs ++ TA b (xs.drop (UN a)) := by
  induction a with
  | nil => intro b xs; simp [TA, UN]
  | cons p a ih =>
    intro b xs
    cases p <;> simp only [List.cons_append, TA, UN, ih] <;> try (split <;> simp [List.drop_tail])
theorem TX_app (a : List P) : ∀ (b : List P) (xs : List Bool), TX (a ++ b) xs = TX a xs ++ TX b (xs.drop (UN a)) := by
  induction a with
  | nil => intro b xs; simp [TX, UN]
  | cons p a ih =>
    intro b xs
    cases p <;> simp [TX, UN, ih, List.drop_tail]
/-- none inserts -/
def NoI (l : List P) : Prop := ∀ p ∈ l, p.Ins = false
theorem NoI.cons {p : P} {l : List P} : NoI (p :: l) ↔ p.Ins = false ∧ NoI l := by simp [NoI]
theorem NoI.app {a b : List P} : NoI (a ++ b) ↔ NoI a ∧ NoI b := by simp [NoI, or_imp, forall_and]
theorem alike_k (n : Nat) : Alike (List.replicate n (.k 1)) [.k n] := by
  intro R
  induction n generalizing R with
  | zero => simp [addP_k0]
  | succ n ih => rw [List.replicate_succ, List.foldl_cons, ih]; simp [addP_kk, Nat.add_comm]
theorem alike_d (n : Nat) : Alike (List.replicate n (.d 1)) [.d n] := by
  intro R
  induction n generalizing R with
  | zero => simp [addP_d0]
  | succ n ih => rw [List.replicate_succ, List.foldl_cons, ih]; simp [addP_dd, Nat.add_comm]
theorem Alike.symm {a b : List P} (h : Alike a b) : Alike b a := fun R => (h R).symm
theorem ex_pass_k {m n : Nat} {r : List P} (h : n ≤ m) : ex (.k m :: r) = List.replicate n (.k 1) ++ ex (pass (.k m :: r) n) := by
  by_cases hz : n = m
  · rw [pass_eq (p := .k m) hz, ex_cons, hz]; rfl
  · rw [pass_ne (p := .k m) hz, ex_cons, ex_cons]
    simp only [exP, P.cut]
    rw [← List.append_assoc, List.replicate_append_replicate, show n + (m - n) = m from by omega]
theorem ex_pass_d {m n : Nat} {r : List P} (h : n ≤ m) : ex (.d m :: r) = List.replicate n (.d 1) ++ ex (pass (.d m :: r) n) := by
  by_cases hz : n = m
  · rw [pass_eq (p := .d m) hz, ex_cons, hz]; rfl
  · rw [pass_ne (p := .d m) hz, ex_cons, ex_cons]
    simp only [exP, P.cut]
    rw [← List.append_assoc, List.replicate_append_replicate, show n + (m - n) = m from by omega]
theorem bx_pass_k {m n : Nat} {r : List P} (h : n ≤ m) : bx (.k m :: r) = List.replicate n true ++ bx (pass (.k m :: r) n) := by
  by_cases hz : n = m
  · rw [pass_eq (p := .k m) hz, bx_cons, hz]; rfl
  · rw [pass_ne (p := .k m) hz, bx_cons, bx_cons]
    simp only [bxP, P.cut]
    rw [← List.append_assoc, List.replicate_append_replicate, show n + (m - n) = m from by omega]
theorem bx_pass_d {m n : Nat} {r : List P} (h : n ≤ m) : bx (.d m :: r) = List.replicate n false ++ bx (pass (.d m :: r) n) := by
  by_cases hz : n = m
  · rw [pass_eq (p := .d m) hz, bx_cons, hz]; rfl
  · rw [pass_ne (p := .d m) hz, bx_cons, bx_cons]
    simp only [bxP, P.cut]
    rw [← List.append_assoc, List.replicate_append_replicate, show n + (m - n) = m from by omega]
theorem TA_rep_k (b : Bool) (n : Nat) (a : List P) (xs : List Bool) : TA (List.replicate n (.k 1) ++ a) (List.replicate n b ++ xs) = (if b then List.replicate n (.k 1) else []) ++ TA a xs := by
  induction n with
  | zero => cases b <;> simp
  | succ n ih => cases b <;> simp_all [List.replicate_succ, TA]
theorem TA_rep_d (b : Bool) (n : Nat) (a : List P) (xs : List Bool) : TA (List.replicate n (.d 1) ++ a) (List.replicate n b ++ xs) = (if b then List.replicate n (.d 1) else []) ++ TA a xs := by
  induction n with
  | zero => cases b <;> simp
  | succ n ih => cases b <;> simp_all [List.replicate_succ, TA]
theorem TX_rep_k (b : Bool) (n : Nat) (a : List P) (xs : List Bool) : TX (List.replicate n (.k 1) ++ a) (List.replicate n b ++ xs) = List.replicate n b ++ TX a xs := by
  induction n with
  | zero => simp
  | succ n ih => simp_all [List.replicate_succ, TX]
theorem TX_rep_d (b : Bool) (n : Nat) (a : List P) (xs : List Bool) : TX (List.replicate n (.d 1) ++ a) (List.replicate n b ++ xs) = TX a xs := by
  induction n with
  | zero => simp
  | succ n ih => simp_all [List.replicate_succ, TX]
theorem NoI_pass {p : P} {l : List P} {n : Nat} (h : NoI (p :: l)) : NoI (pass (p :: l) n) := by
  rw [NoI.cons] at h
  simp only [pass]
  split
  · exact h.2
  · rw [NoI.cons]; exact ⟨by cases p <;> simp_all [P.cut, P.Ins], h.2⟩
theorem xf_ex (f : Nat) : ∀ A X : List P, AllOk A → AllOk X → NoI X → FS A = FS X → ZS A + ZS X ≤ f →
    Alike (xf f A X).1 (TA (ex A) (bx X)) ∧ bx (xf f A X).2 = TX (ex A) (bx X) ∧ NoI (xf f A X).2 := by
  induction f with
  | zero =>
    intro a b ha hb _ h hz
    have h1 : a = [] := by
      cases a with
      | nil => rfl
      | cons p a => have := ZS_pos (l := a) ((allOk_cons.1 ha).1); omega
    have h2 : b = [] := by
      cases b with
      | nil => rfl
      | cons p b => have := ZS_pos (l := b) ((allOk_cons.1 hb).1); omega
    subst h1 h2
    exact ⟨Alike.refl _, rfl, by simp [NoI, xf]⟩
  | succ f ih =>
    intro a b ha hb hn h hz
    rcases two_ways ha hb h with ⟨rfl, rfl⟩ | ⟨t, r, rfl⟩ | ⟨t, r, rfl, hne⟩ | ⟨x, r, y, s, rfl, rfl, hx, hy⟩
    · exact ⟨by simp [xf, ex, TA, Alike], by simp [xf, ex, TX, bx], by simp [NoI, xf]⟩
    · obtain ⟨h1, h2⟩ := allOk_cons.1 ha
      have hp := P.ok_z h1
      simp only [ZS, P.z] at hz hp
      obtain ⟨i1, i2, i3⟩ := ih r b h2 hb hn (by simpa [FS, P.F] using h) (by omega)
      rw [xf_i1, ex_cons]
      refine ⟨fun R => ?_, ?_, NoI.cons.2 ⟨rfl, i3⟩⟩
      · simp only [exP, List.cons_append, List.nil_append, TA, List.foldl_cons]; exact i1 _
      · simp only [exP, List.cons_append, List.nil_append, TX, bx_cons, bxP, i2]
    · exact absurd (hn _ (List.mem_cons_self ..)) (by simp [P.Ins])
    · obtain ⟨ox, hr⟩ := allOk_cons.1 ha
      obtain ⟨oy, hs⟩ := allOk_cons.1 hb
      have zx := P.ok_z ox
      have zy := P.ok_z oy
      have hn1 : 1 ≤ min x.z y.z := by omega
      have hnx : min x.z y.z ≤ x.z := Nat.min_le_left _ _
      have hny : min x.z y.z ≤ y.z := Nat.min_le_right _ _
      rw [xf_2 _ _ _ _ _ hx hy]
      generalize min x.z y.z = n at *
      have za := pass_Z (l := r) hnx
      have zb := pass_Z (l := s) hny
      have fa := pass_F (l := r) hx hnx
      have fb := pass_F (l := s) hy hny
      obtain ⟨i1, i2, i3⟩ := ih _ _ (pass_ok ha hnx) (pass_ok hb hny) (NoI_pass hn) (by omega) (by omega)
      cases x with
      | i t => cases hx
      | k m =>
        cases y with
        | i t => cases hy
        | k m' =>
          simp only [P.z] at hnx hny
          rw [ex_pass_k hnx, bx_pass_k hny, TA_rep_k, TX_rep_k]
          simp only [xe1, xe2, bx_app, bx_cons, bxP, if_true]
          refine ⟨(alike_k n).symm.app i1, by rw [i2]; simp [bx], NoI.app.2 ⟨by simp [NoI, P.Ins], i3⟩⟩
        | d m' =>
          simp only [P.z] at hnx hny
          rw [ex_pass_k hnx, bx_pass_d hny, TA_rep_k, TX_rep_k]
          simp only [xe1, xe2, bx_app, bx_cons, bxP]
          refine ⟨i1, by rw [i2]; simp [bx], NoI.app.2 ⟨by simp [NoI, P.Ins], i3⟩⟩
      | d m =>
        cases y with
        | i t => cases hy
        | k m' =>
          simp only [P.z] at hnx hny
          rw [ex_pass_d hnx, bx_pass_k hny, TA_rep_d, TX_rep_d]
          simp only [xe1, xe2, if_true, List.nil_append]
          exact ⟨(alike_d n).symm.app i1, i2, i3⟩
        | d m' =>
          simp only [P.z] at hnx hny
          rw [ex_pass_d hnx, bx_pass_d hny, TA_rep_d, TX_rep_d]
          simp only [xe1, xe2, List.nil_append]
          exact ⟨i1, i2, i3⟩
theorem cf_bx (f : Nat) : ∀ A X : List P, AllOk A → AllOk X → NoI A → NoI X → TS A = FS X → ZS A + ZS X ≤ f →
    bx (cf f A X) = CC (bx A) (bx X) ∧ NoI (cf f A X) := by
  induction f with
  | zero =>
    intro a b ha hb _ _ h hz
    have h1 : a = [] := by
      cases a with
      | nil => rfl
      | cons p a => have := ZS_pos (l := a) ((allOk_cons.1 ha).1); omega
    have h2 : b = [] := by
      cases b with
      | nil => rfl
      | cons p b => have := ZS_pos (l := b) ((allOk_cons.1 hb).1); omega
    subst h1 h2
    exact ⟨rfl, by simp [NoI, cf]⟩
  | succ f ih =>
    intro a b ha hb hm hn h hz
    rcases two_ways' ha hb h with ⟨rfl, rfl⟩ | ⟨t, r, rfl⟩ | ⟨t, r, rfl, hne⟩ | ⟨x, r, y, s, rfl, rfl, hx, hy⟩
    · exact ⟨by simp [cf, bx, CC], by simp [NoI, cf]⟩
    · obtain ⟨h1, h2⟩ := allOk_cons.1 ha
      have hp := P.ok_z h1
      simp only [ZS, P.z] at hz hp
      obtain ⟨i1, i2⟩ := ih r b h2 hb (NoI.cons.1 hm).2 hn (by simpa [TS, P.T] using h) (by omega)
      rw [cf_d, bx_cons, bx_cons, i1]
      exact ⟨by simp only [bxP]; rw [CC_false], NoI.cons.2 ⟨rfl, i2⟩⟩
    · exact absurd (hn _ (List.mem_cons_self ..)) (by simp [P.Ins])
    · obtain ⟨ox, hr⟩ := allOk_cons.1 ha
      obtain ⟨oy, hs⟩ := allOk_cons.1 hb
      have zx := P.ok_z ox
      have zy := P.ok_z oy
      have hn1 : 1 ≤ min x.z y.z := by omega
      have hnx : min x.z y.z ≤ x.z := Nat.min_le_left _ _
      have hny : min x.z y.z ≤ y.z := Nat.min_le_right _ _
      rw [cf_2 _ _ _ _ _ hx hy]
      generalize min x.z y.z = n at *
      have za := pass_Z (l := r) hnx
      have zb := pass_Z (l := s) hny
      have fb := pass_F (l := s) hy hny
      have oa := pass_ok ha hnx
      have ob := pass_ok hb hny
      cases x with
      | i t => exact absurd (NoI.cons.1 hm).1 (by simp [P.Ins])
      | d m => cases hx
      | k m =>
        simp only [P.z] at hnx
        have ta := pass_Tk (l := r) hnx
        obtain ⟨i1, i2⟩ := ih _ _ oa ob (NoI_pass hm) (NoI_pass hn) (by omega) (by omega)
        cases y with
        | i t => cases hy
        | k m' =>
          simp only [P.z] at hny
          rw [bx_app, i1, bx_pass_k hnx, bx_pass_k hny, CC_tb]
          exact ⟨by simp [ce, bx, bxP], NoI.app.2 ⟨by simp [ce, NoI, P.Ins], i2⟩⟩
        | d m' =>
          simp only [P.z] at hny
          rw [bx_app, i1, bx_pass_k hnx, bx_pass_d hny, CC_tb]
          exact ⟨by simp [ce, bx, bxP], NoI.app.2 ⟨by simp [ce, NoI, P.Ins], i2⟩⟩

/-! ### what is built is alike -/
theorem ex_addP (p : P) (hp : p.Ins = false) (R : List P) : ex (addP R p).reverse = ex (R.reverse ++ [p]) := by
  cases p with
  | i t => cases hp
  | k m =>
    by_cases hm : m = 0
    · subst hm; rw [addP_k0, ex_app]; simp [ex, exP]
    · cases R with
      | nil => simp [addP, hm]
      | cons q R =>
        cases q <;> simp [addP, hm, ex_app, ex_cons, exP, ex]
  | d m =>
    by_cases hm : m = 0
    · subst hm; rw [addP_d0, ex_app]; simp [ex, exP]
    · cases R with
      | nil => simp [addP, hm]
      | cons q R =>
        cases q <;> simp [addP, hm, ex_app, ex_cons, exP, ex]
theorem TX_d (m : Nat) : ∀ xs : List Bool, TX (List.replicate m (.d 1)) xs = [] := by
  induction m with
  | zero => intro xs; rfl
  | succ m ih => intro xs; rw [List.replicate_succ]; simp [TX, ih]
theorem TA_d (m : Nat) : ∀ xs : List Bool, ∃ j, TA (List.replicate m (.d 1)) xs = List.replicate j (.d 1) := by
  induction m with
  | zero => intro xs; exact ⟨0, rfl⟩
  | succ m ih =>
    intro xs
    rw [List.replicate_succ]
    simp only [TA]
    obtain ⟨j, hj⟩ := ih xs.tail
    split
    · exact ⟨j + 1, by rw [hj]; rfl⟩
    · exact ⟨j, hj⟩
theorem alike_swap (l : List Nat) (j : Nat) : Alike ([.i l] ++ List.replicate j (.d 1)) (List.replicate j (.d 1) ++ [.i l]) := by
  refine ((Alike.refl [.i l]).app (alike_d j)).trans (Alike.trans ?_ ((alike_d j).symm.app (Alike.refl [.i l])))
  intro R
  simp [addP_di]
theorem TA_addP (p : P) (xs : List Bool) : ∀ R : List P, Alike (TA (ex (addP R p).reverse) xs) (TA (ex (R.reverse ++ [p])) xs) ∧ TX (ex (addP R p).reverse) xs = TX (ex (R.reverse ++ [p])) xs := by
  cases p with
  | k m => intro R; rw [ex_addP _ rfl]; exact ⟨Alike.refl _, rfl⟩
  | d m => intro R; rw [ex_addP _ rfl]; exact ⟨Alike.refl _, rfl⟩
  | i l =>
    intro R
    by_cases hl : l = []
    · subst hl
      rw [addP_i0, ex_app, TA_app, TX_app]
      exact ⟨fun S => by simp [ex, exP, TA, List.foldl_append, addP_i0], by simp [ex, exP, TX]⟩
    · induction R with
      | nil => simp [addP, hl]; exact Alike.refl _
      | cons q R ih =>
        cases q with
        | k n => simp only [addP, if_neg hl, List.reverse_cons]; exact ⟨Alike.refl _, trivial⟩
        | i n =>
          simp only [addP, if_neg hl, List.reverse_cons, ex_app, TA_app, TX_app, List.append_assoc]
          exact ⟨(Alike.refl _).app fun S => by simp [ex, exP, TA, addP_ii], by simp [ex, exP, TX]⟩
        | d n =>
          have hU : UN (ex (addP R (.i l)).reverse) = UN (ex R.reverse) := by rw [UN_ex, UN_ex, FS_rev, FS_rev, FS_addP]; rfl
          obtain ⟨j, hj⟩ := TA_d n (xs.drop (UN (ex R.reverse)))
          have e1 : ex [.d n] = List.replicate n (.d 1) := by simp [ex, exP]
          have e2 : ex [.i l] = [.i l] := by simp [ex, exP]
          obtain ⟨ih1, ih2⟩ := ih
          rw [ex_app, TA_app, e2] at ih1
          rw [ex_app, TX_app, e2] at ih2
          simp only [addP, if_neg hl, List.reverse_cons, ex_app, TA_app, TX_app, List.append_assoc, e1, e2, hU, hj, TX_d, ih2]
          refine ⟨(ih1.app (Alike.refl _)).trans ?_, by simp [TX]⟩
          rw [List.append_assoc]
          exact (Alike.refl _).app (by simpa [TA] using alike_swap l j)
theorem TA_foldl (xs : List Bool) (l : List P) : ∀ R : List P, Alike (TA (ex (l.foldl addP R).reverse) xs) (TA (ex (R.reverse ++ l)) xs) ∧ TX (ex (l.foldl addP R).reverse) xs = TX (ex (R.reverse ++ l)) xs := by
  induction l with
  | nil => intro R; simp; exact Alike.refl _
  | cons p l ih =>
    intro R
    rw [List.foldl_cons]
    obtain ⟨i1, i2⟩ := ih (addP R p)
    obtain ⟨j1, j2⟩ := TA_addP p xs R
    have hU : UN (ex (addP R p).reverse) = UN (ex (R.reverse ++ [p])) := by
      rw [UN_ex, UN_ex, FS_rev, FS_addP, FS_app, FS_rev]; simp [FS]
    have e : ex (R.reverse ++ p :: l) = ex (R.reverse ++ [p]) ++ ex l := by rw [← ex_app]; simp
    rw [ex_app, TA_app, hU] at i1
    rw [ex_app, TX_app, hU, j2] at i2
    rw [e, TA_app, TX_app]
    exact ⟨i1.trans (j1.app (Alike.refl _)), i2⟩
theorem TA_build (xs : List Bool) (l : List P) : Alike (TA (ex (build l).reverse) xs) (TA (ex l) xs) ∧ TX (ex (build l).reverse) xs = TX (ex l) xs := by
  have := TA_foldl xs l []
  simpa [build] using this
theorem bx_addP (p : P) : ∀ R : List P, bx (addP R p).reverse = bx (R.reverse ++ [p]) := by
  cases p with
  | k m =>
    intro R
    by_cases hm : m = 0
    · subst hm; rw [addP_k0, bx_app]; simp [bx, bxP]
    · cases R with
      | nil => simp [addP, hm]
      | cons q R => cases q <;> simp [addP, hm, bx_app, bx_cons, bxP, bx]
  | d m =>
    intro R
    by_cases hm : m = 0
    · subst hm; rw [addP_d0, bx_app]; simp [bx, bxP]
    · cases R with
      | nil => simp [addP, hm]
      | cons q R => cases q <;> simp [addP, hm, bx_app, bx_cons, bxP, bx]
  | i l =>
    intro R
    by_cases hl : l = []
    · subst hl; rw [addP_i0, bx_app]; simp [bx, bxP]
    · induction R with
      | nil => simp [addP, hl]
      | cons q R ih =>
        cases q with
        | k n => simp [addP, hl]
        | i n => simp [addP, hl, bx_app, bx_cons, bxP, bx]
        | d n =>
          simp only [addP, if_neg hl, List.reverse_cons, bx_app, ih, List.append_assoc]
          simp [bx, bxP]
theorem bx_build (l : List P) : bx (build l).reverse = bx l := by
  have key : ∀ (l R : List P), bx (l.foldl addP R).reverse = bx (R.reverse ++ l) := by
    intro l
    induction l with
    | nil => intro R; simp
    | cons p l ih =>
      intro R
      rw [List.foldl_cons, ih, bx_app, bx_addP, ← bx_app]; simp
  simpa [build] using key l []
theorem NoI_build {l : List P} (h : NoI l) : NoI (build l).reverse := by
  have key : ∀ (l R : List P), NoI l → NoI R → NoI (l.foldl addP R) := by
    intro l
    induction l with
    | nil => intro R _ h; exact h
    | cons p l ih =>
      intro R h1 h2
      rw [NoI.cons] at h1
      refine ih _ h1.2 ?_
      cases p with
      | i t => exact absurd h1.1 (by simp [P.Ins])
      | k m => unfold addP; split; exact h2; cases R with
        | nil => simp [NoI, P.Ins]
        | cons q R => rw [NoI.cons] at h2; cases q <;> simp_all [NoI.cons, P.Ins]
      | d m => unfold addP; split; exact h2; cases R with
        | nil => simp [NoI, P.Ins]
        | cons q R => rw [NoI.cons] at h2; cases q <;> simp_all [NoI.cons, P.Ins]
  intro p hp
  exact key l [] h (by simp [NoI]) p (show p ∈ build l from List.mem_reverse.1 hp)
def un (l : List Bool) : List P := l.map fun b => if b then .k 1 else .d 1
theorem alike_un {l : List P} (h : NoI l) : Alike l (un (bx l)) := by
  induction l with
  | nil => exact Alike.refl _
  | cons p l ih =>
    rw [NoI.cons] at h
    have e : un (bx (p :: l)) = un (bxP p) ++ un (bx l) := by simp [un, bx_cons]
    rw [e]
    refine Alike.app (a := [p]) ?_ (ih h.2)
    cases p with
    | i t => exact absurd h.1 (by simp [P.Ins])
    | k n => simp only [un, bxP, List.map_replicate, if_true]; exact (alike_k n).symm
    | d n => simp only [un, bxP, List.map_replicate]; exact (alike_d n).symm
theorem opOf_bx {a b : List P} (ha : NoI a) (hb : NoI b) (h : bx a = bx b) : opOfP a = opOfP b :=
  ((alike_un ha).trans (by rw [h]; exact (alike_un hb).symm)).opOf
theorem ex_ex (l : List P) (xs : List Bool) : ex (TA (ex l) xs) = TA (ex l) xs := by
  have key : ∀ (a : List P) (xs : List Bool), (∀ p ∈ a, exP p = [p]) → ex (TA a xs) = TA a xs := by
    intro a
    induction a with
    | nil => intro xs _; rfl
    | cons p a ih =>
      intro xs h
      have hp := h p (List.mem_cons_self ..)
      have ha : ∀ p ∈ a, exP p = [p] := fun q hq => h q (List.mem_cons_of_mem _ hq)
      cases p with
      | i t => simp only [TA, ex_cons, hp, ih _ ha]; rfl
      | k n =>
        simp only [TA]
        split
        · rw [ex_cons, hp, ih _ ha]; rfl
        · exact ih _ ha
      | d n =>
        simp only [TA]
        split
        · rw [ex_cons, hp, ih _ ha]; rfl
        · exact ih _ ha
  refine key _ _ fun p hp => ?_
  unfold ex at hp
  obtain ⟨q, _, hq⟩ := List.mem_flatMap.1 hp
  cases q with
  | k n => rw [(List.mem_replicate.1 hq).2]; rfl
  | d n => rw [(List.mem_replicate.1 hq).2]; rfl
  | i t => simp [exP] at hq; subst hq; rfl
theorem bx_len (l : List P) (h : NoI l) : (bx l).length = FS l := by
  induction l with
  | nil => rfl
  | cons p l ih => rw [NoI.cons] at h; rw [bx_cons, List.length_append, ih h.2]; cases p <;> simp_all [bxP, FS, P.F, P.Ins]
/-- behind two that do not insert -/
theorem tr_two {o x y : Op} (ho : check o = 0) (hx : check x = 0) (hy : check y = 0) (nx : NoI (opP x)) (ny : NoI (opP y)) (h1 : sumF o = sumF x) (h2 : sumT x = sumF y) (hb : sumT o + sumT x + sumT y ≤ 4000) :
    trX (trX o x) y = trX o (coOp x y) ∧ coOp (trY o x) (trY (trX o x) y) = trY o (coOp x y) := by
  obtain ⟨z0, z1, z2, -⟩ := co_laws hx hy h2
  have tb : 0 ≤ sumT y := by have := (opIs hy).t; omega
  have tb2 : 0 ≤ sumT x := by have := (opIs hx).t; omega
  obtain ⟨p0, q0, p1, q1, pq, p2, p3, -, pT⟩ := tr_laws ho hx h1 (by omega)
  obtain ⟨r0, s0, r1, s1, rs, r2, r3, -, rT⟩ := tr_laws p0 hy (by omega) (by omega)
  obtain ⟨u0, v0, u1, v1, uv, u2, u3, -, uT⟩ := tr_laws ho z0 (by omega) (by omega)
  have hIo := opIs ho
  have hIx := opIs hx
  have hIy := opIs hy
  have hIz := opIs z0
  have hIp := opIs p0
  have f1 : FS (opP o) = FS (opP x) := by have := hIo.f; have := hIx.f; omega
  have f2 : FS (opP (trX o x)) = FS (opP y) := by have := hIp.f; have := hIy.f; omega
  have f3 : FS (opP o) = FS (opP (coOp x y)) := by have := hIo.f; have := hIz.f; omega
  have fxy : TS (opP x) = FS (opP y) := by have := hIx.t; have := hIy.f; omega
  obtain ⟨a1, b1, c1⟩ := xf_ex _ _ _ hIo.ok hIx.ok nx f1 (Nat.le_refl _)
  obtain ⟨l1, l2, l3, l4, l5, -⟩ := xf_laws _ _ _ hIo.ok hIx.ok f1 (Nat.le_refl _)
  have cc := cf_bx _ _ _ hIx.ok hIy.ok nx ny fxy (Nat.le_refl _)
  obtain ⟨cl1, cl2, cl3, -⟩ := cf_laws _ _ _ hIx.ok hIy.ok fxy (Nat.le_refl _)
  have bz : bx (opP (coOp x y)) = CC (bx (opP x)) (bx (opP y)) := by
    unfold coOp
    rw [opOfP_opP cl1 (by have := hIx.f; have := (check_zero hx).2.2; omega) (by have := hIy.t; have := (check_zero hy).2.2; omega), bx_build, cc.1]
  have nz : NoI (opP (coOp x y)) := by
    unfold coOp
    rw [opOfP_opP cl1 (by have := hIx.f; have := (check_zero hx).2.2; omega) (by have := hIy.t; have := (check_zero hy).2.2; omega)]
    exact NoI_build cc.2
  obtain ⟨a2, b2, c2⟩ := xf_ex _ _ _ hIp.ok hIy.ok ny f2 (Nat.le_refl _)
  obtain ⟨m1, m2, m3, m4, m5, -⟩ := xf_laws _ _ _ hIp.ok hIy.ok f2 (Nat.le_refl _)
  obtain ⟨a3, b3, c3⟩ := xf_ex _ _ _ hIo.ok hIz.ok nz f3 (Nat.le_refl _)
  have hoF := (check_zero ho).2.2
  have hxF := (check_zero hx).2.2
  have hyF := (check_zero hy).2.2
  have e1 := hIo.f
  have e2 := hIo.t
  have e3 := hIx.f
  have e4 := hIx.t
  have e5 := hIy.f
  have e6 := hIy.t
  have e7 := hIp.f
  have e8 := hIp.t
  have hP : opP (trX o x) = (build (TA (ex (opP o)) (bx (opP x)))).reverse := by
    unfold trX
    rw [opOfP_opP l1 (by omega) pT]
    unfold build
    rw [a1]
  have hUN : UN (ex (opP o)) = (bx (opP x)).length := by rw [UN_ex, bx_len _ nx, f1]
  have t1 : Alike (TA (ex (opP (trX o x))) (bx (opP y))) (TA (ex (opP o)) (bx (opP (coOp x y)))) := by
    rw [hP, bz]
    refine (TA_build _ _).1.trans ?_
    rw [ex_ex, law1 _ _ _ hUN]
    exact Alike.refl _
  have t2 : TX (ex (opP (trX o x))) (bx (opP y)) = TX (TA (ex (opP o)) (bx (opP x))) (bx (opP y)) := by
    rw [hP, (TA_build _ _).2, ex_ex]
  refine ⟨?_, ?_⟩
  · show opOfP _ = opOfP _
    exact (a2.trans (t1.trans a3.symm)).opOf
  · have hq : opP (trY o x) = (build (xf (ZS (opP o) + ZS (opP x)) (opP o) (opP x)).2).reverse := by
      unfold trY; exact opOfP_opP l2 (by omega) (by omega)
    have hq2 : opP (trY (trX o x) y) = (build (xf (ZS (opP (trX o x)) + ZS (opP y)) (opP (trX o x)) (opP y)).2).reverse := by
      unfold trY; exact opOfP_opP m2 (by omega) (by omega)
    have nq : NoI (opP (trY o x)) := by rw [hq]; exact NoI_build c1
    have nq2 : NoI (opP (trY (trX o x) y)) := by rw [hq2]; exact NoI_build c2
    have hIq := opIs q0
    have hIq2 := opIs s0
    have fq : TS (opP (trY o x)) = FS (opP (trY (trX o x) y)) := by have := hIq.t; have := hIq2.f; omega
    have cq := cf_bx _ _ _ hIq.ok hIq2.ok nq nq2 fq (Nat.le_refl _)
    show opOfP _ = opOfP _
    refine opOf_bx cq.2 c3 ?_
    rw [cq.1, b3, bz, hq, bx_build, b1, hq2, bx_build, b2, t2, law2 _ _ _ hUN]
end Go.Proofs.YtajijhnnnekhmaaDoor
