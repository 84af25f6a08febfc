/- Plain: operations as lists of parts over runes: how they are built, applied, moved together. No program in sight. -/
import Derived.Test.YtkbfhgcjimfgkaaDoorOpLaw
set_option linter.unusedVariables false
set_option linter.unusedSimpArgs false
namespace Go.Proofs.YtkbfhgcjimfgkaaDoor

/-- a part of an operation: so many runes kept, runes inserted, so many deleted -/
inductive P where
  | k (n : Nat)
  | i (l : List Nat)
  | d (n : Nat)
def P.F : P → Nat
  | .k n => n
  | .i _ => 0
  | .d n => n
def P.T : P → Nat
  | .k n => n
  | .i l => l.length
  | .d _ => 0
/-- its size -/
def P.z : P → Nat
  | .k n => n
  | .i l => l.length
  | .d n => n
/-- without its first n runes -/
def P.cut : P → Nat → P
  | .k m, n => .k (m - n)
  | .i l, n => .i (l.drop n)
  | .d m, n => .d (m - n)
def P.ok : P → Prop
  | .k n => 1 ≤ n
  | .i l => l ≠ [] ∧ ∀ r ∈ l, Uni.vr r
  | .d n => 1 ≤ n
def P.part : P → Part
  | .k n => ⟨1, n, noText⟩
  | .i l => ⟨2, 0, Uni.enc l⟩
  | .d n => ⟨3, n, noText⟩
def FS : List P → Nat
  | [] => 0
  | p :: r => p.F + FS r
def TS : List P → Nat
  | [] => 0
  | p :: r => p.T + TS r
def ZS : List P → Nat
  | [] => 0
  | p :: r => p.z + ZS r
theorem FS_app (a b : List P) : FS (a ++ b) = FS a + FS b := by
  induction a with
  | nil => simp [FS]
  | cons p a ih => simp only [List.cons_append, FS, ih]; omega
theorem TS_app (a b : List P) : TS (a ++ b) = TS a + TS b := by
  induction a with
  | nil => simp [TS]
  | cons p a ih => simp only [List.cons_append, TS, ih]; omega
theorem FS_rev (a : List P) : FS a.reverse = FS a := by
  induction a with
  | nil => rfl
  | cons p a ih => simp only [List.reverse_cons, FS_app, FS, ih]; omega
theorem TS_rev (a : List P) : TS a.reverse = TS a := by
  induction a with
  | nil => rfl
  | cons p a ih => simp only [List.reverse_cons, TS_app, TS, ih]; omega

/-- an operation applied to runes -/
def app : List Nat → List P → List Nat
  | _, [] => []
  | t, .k n :: r => t.take n ++ app (t.drop n) r
  | t, .i l :: r => l ++ app t r
  | t, .d n :: r => app (t.drop n) r
theorem app_app (a b : List P) : ∀ t, app t (a ++ b) = app t a ++ app (t.drop (FS a)) b := by
  induction a with
  | nil => intro t; simp [app, FS]
  | cons p a ih =>
    intro t
    cases p with
    | k n => simp only [List.cons_append, app, ih, FS, P.F, List.drop_drop, List.append_assoc]
    | i l => simp only [List.cons_append, app, ih, FS, P.F, List.append_assoc, Nat.zero_add]
    | d n => simp only [List.cons_append, app, ih, FS, P.F, List.drop_drop]
theorem app_len (a : List P) : ∀ t : List Nat, FS a ≤ t.length → (app t a).length = TS a := by
  induction a with
  | nil => intro t _; rfl
  | cons p a ih =>
    intro t h
    cases p with
    | k n =>
      simp only [FS, P.F] at h
      simp only [app, TS, P.T, List.length_append, List.length_take]
      rw [ih _ (by simp; omega)]; omega
    | i l =>
      simp only [FS, P.F] at h
      simp only [app, TS, P.T, List.length_append]
      rw [ih _ (by omega)]
    | d n =>
      simp only [FS, P.F] at h
      simp only [app, TS, P.T]
      rw [ih _ (by simp; omega)]; omega
/-- only the runes that it is told of count -/
theorem app_more (a : List P) : ∀ t u : List Nat, FS a ≤ t.length → app (t ++ u) a = app t a := by
  induction a with
  | nil => intro t u _; rfl
  | cons p a ih =>
    intro t u h
    cases p with
    | k n =>
      simp only [FS, P.F] at h
      simp only [app, List.take_append_of_le_length (by omega : n ≤ t.length), List.drop_append_of_le_length (by omega : n ≤ t.length)]
      rw [ih _ _ (by simp; omega)]
    | i l =>
      simp only [FS, P.F] at h
      simp only [app]
      rw [ih _ _ (by omega)]
    | d n =>
      simp only [FS, P.F] at h
      simp only [app, List.drop_append_of_le_length (by omega : n ≤ t.length)]
      rw [ih _ _ (by simp; omega)]
theorem app_vr (a : List P) : ∀ t : List Nat, (∀ r ∈ t, Uni.vr r) → (∀ p ∈ a, p.ok) → ∀ r ∈ app t a, Uni.vr r := by
  induction a with
  | nil => intro t _ _ r hr; cases hr
  | cons p a ih =>
    intro t ht ha r hr
    have hta : ∀ n, ∀ r ∈ t.drop n, Uni.vr r := fun n r h => ht r (List.mem_of_mem_drop h)
    have ha' : ∀ p ∈ a, p.ok := fun p h => ha p (List.mem_cons_of_mem _ h)
    cases p with
    | k n =>
      simp only [app, List.mem_append] at hr
      rcases hr with h | h
      · exact ht r (List.mem_of_mem_take h)
      · exact ih _ (hta n) ha' r h
    | i l =>
      simp only [app, List.mem_append] at hr
      rcases hr with h | h
      · exact (ha (.i l) (List.mem_cons_self ..)).2 r h
      · exact ih _ ht ha' r h
    | d n => exact ih _ (hta n) ha' r hr

/-- a part is added behind others; the last one is the head -/
def addP : List P → P → List P
  | r, .k n => if n = 0 then r else match r with
    | .k m :: r' => .k (m + n) :: r'
    | r' => .k n :: r'
  | r, .d n => if n = 0 then r else match r with
    | .d m :: r' => .d (m + n) :: r'
    | r' => .d n :: r'
  | [], .i l => if l = [] then [] else [.i l]
  | .k m :: r, .i l => if l = [] then .k m :: r else .i l :: .k m :: r
  | .i m :: r, .i l => if l = [] then .i m :: r else .i (m ++ l) :: r
  | .d m :: r, .i l => if l = [] then .d m :: r else .d m :: addP r (.i l)
theorem FS_addP (p : P) : ∀ r, FS (addP r p) = FS r + p.F := by
  cases p with
  | k n =>
    intro r
    unfold addP
    split
    · simp [P.F]; omega
    · split
      · simp only [FS, P.F]; omega
      · simp only [FS, P.F]; omega
  | d n =>
    intro r
    unfold addP
    split
    · simp [P.F]; omega
    · split
      · simp only [FS, P.F]; omega
      · simp only [FS, P.F]; omega
  | i l =>
    intro r
    induction r with
    | nil => unfold addP; split <;> simp [FS, P.F]
    | cons q r ih =>
      cases q with
      | k m => unfold addP; split <;> simp [FS, P.F]
      | i m => unfold addP; split <;> simp [FS, P.F]
      | d m =>
        unfold addP
        split
        · simp [FS, P.F]
        · simp only [FS, P.F] at ih ⊢; omega
theorem TS_addP (p : P) : ∀ r, TS (addP r p) = TS r + p.T := by
  cases p with
  | k n =>
    intro r
    unfold addP
    split
    · simp [P.T]; omega
    · split
      · simp only [TS, P.T]; omega
      · simp only [TS, P.T]; omega
  | d n =>
    intro r
    unfold addP
    split
    · simp [P.T]
    · split
      · simp only [TS, P.T]; omega
      · simp only [TS, P.T]; omega
  | i l =>
    intro r
    induction r with
    | nil => unfold addP; split <;> simp_all [TS, P.T]
    | cons q r ih =>
      cases q with
      | k m => unfold addP; split <;> simp_all [TS, P.T]; omega
      | i m => unfold addP; split <;> simp_all [TS, P.T]; omega
      | d m =>
        unfold addP
        split
        · simp_all [TS, P.T]
        · simp only [TS, P.T] at ih ⊢; omega
/-- what is built does what its parts do -/
theorem app_addP (p : P) : ∀ (r : List P) (t : List Nat), app t (addP r p).reverse = app t (p :: r).reverse := by
  have two : ∀ (x y z : P) (r : List P) (h : ∀ u, app u [x, y] = app u [z]) (hF : FS [x, y] = FS [z]) (t : List Nat), app t (z :: r).reverse = app t (y :: x :: r).reverse := by
    intro x y z r h hF t
    simp only [List.reverse_cons, List.append_assoc, List.cons_append, List.nil_append]
    rw [app_app, app_app, h]
  cases p with
  | k n =>
    intro r t
    unfold addP
    split
    · rename_i h; subst h; simp [app_app, app]
    · split
      · rename_i m r'
        exact two (.k m) (.k n) (.k (m + n)) r' (fun u => by simp [app, List.take_add]) (by simp [FS, P.F]) t
      · rfl
  | d n =>
    intro r t
    unfold addP
    split
    · rename_i h; subst h; simp [app_app, app]
    · split
      · rename_i m r'
        exact two (.d m) (.d n) (.d (m + n)) r' (fun u => by simp [app]) (by simp [FS, P.F]) t
      · rfl
  | i l =>
    intro r
    induction r with
    | nil => intro t; unfold addP; split <;> simp_all [app]
    | cons q r ih =>
      intro t
      cases q with
      | k m => unfold addP; split <;> simp_all [app, app_app]
      | i m =>
        unfold addP
        split
        · simp_all [app, app_app]
        · exact two (.i m) (.i l) (.i (m ++ l)) r (fun u => by simp [app]) (by simp [FS, P.F]) t
      | d m =>
        unfold addP
        split
        · simp_all [app, app_app]
        · have hF := FS_addP (.i l) r
          rw [List.reverse_cons, app_app, ih t, FS_rev, hF]
          simp only [List.reverse_cons, app_app, app, List.append_assoc, List.append_nil, List.nil_append]
theorem addP_ok (p : P) (hp : ∀ l, p = .i l → ∀ r ∈ l, Uni.vr r) : ∀ r : List P, (∀ q ∈ r, q.ok) → ∀ q ∈ addP r p, q.ok := by
  cases p with
  | k n =>
    intro r hr
    unfold addP
    split
    · exact hr
    · rename_i h0
      split
      · rename_i m r'
        intro q hq
        rcases List.mem_cons.1 hq with rfl | hq
        · have := hr (.k m) (List.mem_cons_self ..); unfold P.ok at *; omega
        · exact hr q (List.mem_cons_of_mem _ hq)
      · intro q hq
        rcases List.mem_cons.1 hq with rfl | hq
        · unfold P.ok; omega
        · exact hr q hq
  | d n =>
    intro r hr
    unfold addP
    split
    · exact hr
    · rename_i h0
      split
      · rename_i m r'
        intro q hq
        rcases List.mem_cons.1 hq with rfl | hq
        · have := hr (.d m) (List.mem_cons_self ..); unfold P.ok at *; omega
        · exact hr q (List.mem_cons_of_mem _ hq)
      · intro q hq
        rcases List.mem_cons.1 hq with rfl | hq
        · unfold P.ok; omega
        · exact hr q hq
  | i l =>
    have hl := hp l rfl
    intro r
    induction r with
    | nil =>
      intro hr
      unfold addP
      split
      · exact hr
      · rename_i h0
        intro q hq
        rw [List.mem_singleton] at hq
        subst hq
        exact ⟨h0, hl⟩
    | cons x r ih =>
      intro hr
      have hr' : ∀ q ∈ r, q.ok := fun q hq => hr q (List.mem_cons_of_mem _ hq)
      cases x with
      | k m =>
        unfold addP
        split
        · exact hr
        · rename_i h0
          intro q hq
          rcases List.mem_cons.1 hq with rfl | hq
          · exact ⟨h0, hl⟩
          · exact hr q hq
      | i m =>
        unfold addP
        split
        · exact hr
        · rename_i h0
          intro q hq
          rcases List.mem_cons.1 hq with rfl | hq
          · have h1 := hr (.i m) (List.mem_cons_self ..)
            refine ⟨by simp [h0], fun r hr => ?_⟩
            rcases List.mem_append.1 hr with h | h
            · exact h1.2 r h
            · exact hl r h
          · exact hr' q hq
      | d m =>
        unfold addP
        split
        · exact hr
        · intro q hq
          rcases List.mem_cons.1 hq with rfl | hq
          · exact hr (.d m) (List.mem_cons_self ..)
          · exact ih hr' q hq

/-- the kinds of two parts may not stand in this order -/
def P.clash : P → P → Bool
  | .k _, .k _ => true
  | .i _, .i _ => true
  | .d _, .d _ => true
  | .d _, .i _ => true
  | _, _ => false
/-- parts, the last one first, in their one form -/
def Can : List P → Prop
  | [] => True
  | [p] => p.ok
  | p :: q :: r => p.ok ∧ q.clash p = false ∧ Can (q :: r)
theorem Can.tail {p : P} {r : List P} (h : Can (p :: r)) : Can r := by
  cases r with
  | nil => trivial
  | cons q r => exact h.2.2
theorem Can.head {p : P} {r : List P} (h : Can (p :: r)) : p.ok := by
  cases r with
  | nil => exact h
  | cons q r => exact h.1
theorem Can.all {r : List P} (h : Can r) : ∀ p ∈ r, p.ok := by
  induction r with
  | nil => simp
  | cons q r ih =>
    intro p hp
    rcases List.mem_cons.1 hp with rfl | hp
    · exact h.head
    · exact ih h.tail p hp
theorem Can.cons {p : P} {r : List P} (h : Can r) (hp : p.ok) (hc : ∀ q, r.head? = some q → q.clash p = false) : Can (p :: r) := by
  cases r with
  | nil => exact hp
  | cons q r => exact ⟨hp, hc q rfl, h⟩
theorem Can.next {p q : P} {r : List P} (h : Can (p :: r)) (hq : r.head? = some q) : q.clash p = false := by
  cases r with
  | nil => cases hq
  | cons x r => simp at hq; subst hq; exact h.2.1
theorem addP_can (p : P) (hp : ∀ l, p = .i l → ∀ r ∈ l, Uni.vr r) : ∀ r : List P, Can r → Can (addP r p) := by
  cases p with
  | k n =>
    intro r hr
    unfold addP
    split
    · exact hr
    · rename_i h0
      split
      · rename_i m r'
        refine hr.tail.cons (by have := hr.head; unfold P.ok at *; omega) (fun q hq => ?_)
        have := hr.next hq
        cases q <;> simp_all [P.clash]
      · rename_i hne
        refine hr.cons (by unfold P.ok; omega) (fun q hq => ?_)
        cases q with
        | k m =>
          cases r with
          | nil => cases hq
          | cons x r => simp at hq; subst hq; exact absurd rfl (hne m r)
        | i m => rfl
        | d m => rfl
  | d n =>
    intro r hr
    unfold addP
    split
    · exact hr
    · rename_i h0
      split
      · rename_i m r'
        refine hr.tail.cons (by have := hr.head; unfold P.ok at *; omega) (fun q hq => ?_)
        have := hr.next hq
        cases q <;> simp_all [P.clash]
      · rename_i hne
        refine hr.cons (by unfold P.ok; omega) (fun q hq => ?_)
        cases q with
        | d m =>
          cases r with
          | nil => cases hq
          | cons x r => simp at hq; subst hq; exact absurd rfl (hne m r)
        | i m => rfl
        | k m => rfl
  | i l =>
    have hl := hp l rfl
    have key : ∀ r : List P, Can r → Can (addP r (.i l)) ∧ (∀ q, (∀ x, r.head? = some x → x.clash q = false) → (∃ m, q = .d m) → ∀ x, (addP r (.i l)).head? = some x → x.clash q = false) := by
      intro r
      induction r with
      | nil =>
        intro _
        unfold addP
        split
        · exact ⟨trivial, fun q _ _ x hx => by cases hx⟩
        · rename_i h0
          exact ⟨⟨h0, hl⟩, fun q _ ⟨m, hm⟩ x hx => by simp at hx; subst hx hm; rfl⟩
      | cons y r ih =>
        intro hr
        cases y with
        | k m =>
          unfold addP
          split
          · exact ⟨hr, fun q hq _ x hx => hq x hx⟩
          · rename_i h0
            exact ⟨hr.cons ⟨h0, hl⟩ (fun q hq => by simp at hq; subst hq; rfl), fun q _ ⟨m, hm⟩ x hx => by simp at hx; subst hx hm; rfl⟩
        | i m =>
          unfold addP
          split
          · exact ⟨hr, fun q hq _ x hx => hq x hx⟩
          · rename_i h0
            refine ⟨hr.tail.cons ?_ (fun q hq => ?_), fun q _ ⟨m, hm⟩ x hx => by simp at hx; subst hx hm; rfl⟩
            · refine ⟨by simp [h0], fun r' hr' => ?_⟩
              rcases List.mem_append.1 hr' with h | h
              · exact hr.head.2 r' h
              · exact hl r' h
            · have := hr.next hq
              cases q <;> simp_all [P.clash]
        | d m =>
          unfold addP
          split
          · exact ⟨hr, fun q hq _ x hx => hq x hx⟩
          · have h1 := ih hr.tail
            refine ⟨h1.1.cons hr.head (fun q hq => h1.2 (.d m) (fun x hx => hr.next hx) ⟨m, rfl⟩ q hq), fun q hq hm x hx => hq x (by simpa using hx)⟩
    exact fun r hr => (key r hr).1
end Go.Proofs.YtkbfhgcjimfgkaaDoor
