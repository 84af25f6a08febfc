/- Plain: the parts of an operation that may be, as parts over runes; and back. No program in sight. -/
import Derived.Test.YtkbfhgcjimfgkaaDoorPlain
import Derived.Test.YtkbfhgcjimfgkaaDoorMove
set_option linter.unusedVariables false
set_option linter.unusedSimpArgs false
namespace Go.Proofs.YtkbfhgcjimfgkaaDoor
open Go.RowKit

/-- the runes of a text -/
def rns (s : Str) : List Nat := Uni.dec s.data.toList
theorem rc_rns (s : Str) : rc s = (rns s).length := by unfold rc rns; rw [Uni.count_dec]
theorem rns_enc {l : List Nat} (h : ∀ r ∈ l, Uni.vr r) : rns (Uni.enc l) = l := by unfold rns Uni.enc; exact Uni.dec_enc_all l h
theorem enc_rns {s : Str} (h : valid s = true) : Uni.enc (rns s) = s := (enc_dec_str s h).1
theorem rns_vr {s : Str} (h : valid s = true) : ∀ r ∈ rns s, Uni.vr r := (enc_dec_str s h).2
def toP (p : Part) : P := if p.kind = 1 then .k p.n.toNat else if p.kind = 2 then .i (rns p.text) else .d p.n.toNat
def opP (o : Op) : List P := o.map toP
theorem part_toP {p : P} (h : p.ok) : toP p.part = p := by
  cases p with
  | k n => simp [toP, P.part]
  | i l => simp only [toP, P.part]; rw [if_neg (by decide), if_true, rns_enc h.2]
  | d n => simp [toP, P.part]
theorem toP_part {p : Part} (h : Solid p) : (toP p).part = p ∧ (toP p).ok := by
  obtain ⟨k, n, t⟩ := p
  rcases h with ⟨hk, hn, ht⟩ | ⟨hk, hn, hv, he⟩
  · simp only at hk hn ht
    subst ht
    rcases hk with rfl | rfl
    · simp only [toP, if_true, P.part, P.ok]
      exact ⟨by congr; omega, by omega⟩
    · simp only [toP, P.part, P.ok]
      rw [if_neg (by decide), if_neg (by decide)]
      exact ⟨by simp only; congr; omega, by simp only; omega⟩
  · simp only at hk hn hv he
    subst hk hn
    simp only [toP]
    rw [if_neg (by decide), if_true]
    refine ⟨by simp only [P.part, enc_rns hv], ?_, rns_vr hv⟩
    intro h0
    have : Uni.enc (rns t) = t := enc_rns hv
    rw [h0] at this
    rw [← this] at he
    have h2 : emptyS (Uni.enc []) = true := by rw [emptyS_iff]; rfl
    rw [h2] at he; cases he
theorem part_solid {p : P} (h : p.ok) : Solid p.part := by
  cases p with
  | k n => exact .inl ⟨.inl rfl, by unfold P.ok at h; simp only [P.part]; omega, rfl⟩
  | d n => exact .inl ⟨.inr rfl, by unfold P.ok at h; simp only [P.part]; omega, rfl⟩
  | i l =>
    refine .inr ⟨rfl, rfl, valid_enc _ h.2, ?_⟩
    simp only [P.part]
    cases he : emptyS (Uni.enc l) with
    | false => rfl
    | true =>
      have h1 := rc_empty he
      rw [rc_enc _ h.2] at h1
      exact absurd (List.eq_nil_of_length_eq_zero (by omega)) h.1
theorem solid_of_ok {p : Part} (h : partOk p = 0) : Solid p := by
  obtain ⟨k, n, t⟩ := p
  unfold partOk at h
  simp only at h
  by_cases h1 : k = 1 ∨ k = 3
  · rw [if_pos h1] at h
    by_cases h2 : n < 1 ∨ 4000 < n
    · rw [if_pos h2] at h; omega
    · rw [if_neg h2] at h
      cases he : emptyS t with
      | false => rw [he] at h; simp at h
      | true => exact .inl ⟨h1, by simp only; omega, eq_noText he⟩
  · rw [if_neg h1] at h
    by_cases h2 : k = 2
    · rw [if_pos h2] at h
      by_cases h3 : checkText t = 0
      · rw [if_neg (by simpa using h3)] at h
        have hv : valid t = true := by
          unfold checkText at h3
          cases hv : valid t with
          | true => rfl
          | false => rw [hv] at h3; simp at h3
        cases he : emptyS t with
        | true => rw [he] at h; simp at h
        | false =>
          rw [he] at h
          by_cases h0 : n = 0
          · exact .inr ⟨h2, h0, hv, he⟩
          · rw [if_pos (.inr h0)] at h; omega
      · rw [if_pos h3] at h; omega
    · rw [if_neg h2] at h; omega
theorem part_F (p : P) : lenF p.part = p.F := by cases p <;> simp [lenF, P.part, P.F]
theorem part_T {p : P} (h : p.ok) : lenT p.part = p.T := by
  cases p with
  | k n => simp [lenT, P.part, P.T]
  | d n => simp [lenT, P.part, P.T]
  | i l => simp only [lenT, P.part, P.T]; rw [if_neg (by decide), if_true, rc_enc _ h.2]
theorem sumF_parts (l : List P) : sumF (l.map P.part) = FS l := by
  induction l with
  | nil => rfl
  | cons p l ih => simp only [List.map_cons, sumF_cons, ih, FS, part_F]; push_cast; rfl
theorem sumT_parts (l : List P) (h : ∀ p ∈ l, p.ok) : sumT (l.map P.part) = TS l := by
  induction l with
  | nil => rfl
  | cons p l ih =>
    simp only [List.map_cons, sumT_cons, TS, part_T (h p (List.mem_cons_self ..))]
    rw [ih (fun q hq => h q (List.mem_cons_of_mem _ hq))]; push_cast; rfl
theorem clash_part (p q : P) : clash p.part.kind q.part.kind = p.clash q := by
  cases p <;> cases q <;> simp [clash, P.part, P.clash]
theorem can_canon : ∀ {r : List P}, Can r → Canon (r.map P.part)
  | [], _ => trivial
  | [p], h => part_solid h
  | p :: q :: r, h => ⟨part_solid h.1, by rw [clash_part]; exact h.2.1, can_canon (r := q :: r) h.2.2⟩
theorem canon_can : ∀ {r : List P}, (∀ p ∈ r, p.ok) → Canon (r.map P.part) → Can r
  | [], _, _ => trivial
  | [p], h, _ => h p (List.mem_cons_self ..)
  | p :: q :: r, h, hc => ⟨h p (List.mem_cons_self ..), by rw [← clash_part]; exact hc.2.1, canon_can (r := q :: r) (fun x hx => h x (List.mem_cons_of_mem _ hx)) hc.2.2⟩
theorem can_check {r : List P} (hc : Can r) (hl : r.length ≤ 8001) (hf : FS r ≤ 4000) (ht : TS r ≤ 4000) : check (r.reverse.map P.part) = 0 := by
  rw [List.map_reverse]
  refine canon_check (can_canon hc) (by simpa using hl) ?_ ?_
  · rw [sumF_parts]; omega
  · rw [sumT_parts _ hc.all]; omega
theorem ok_len (l : List P) (h : ∀ p ∈ l, p.ok) : l.length ≤ FS l + TS l := by
  induction l with
  | nil => simp
  | cons p l ih =>
    have h1 := ih (fun q hq => h q (List.mem_cons_of_mem _ hq))
    have h2 := h p (List.mem_cons_self ..)
    simp only [List.length_cons, FS, TS]
    cases p with
    | k n => unfold P.ok at h2; simp only [P.F, P.T]; omega
    | d n => unfold P.ok at h2; simp only [P.F, P.T]; omega
    | i l =>
      have : l.length ≠ 0 := fun h => h2.1 (List.eq_nil_of_length_eq_zero h)
      simp only [P.F, P.T]; omega
/-- the kinds that follow one another -/
theorem from_can : ∀ (l : Op) (q : Part) (r : List Part), Canon (q :: r) → checkFrom (some q.kind) l = 0 → (∀ p ∈ l, Solid p) → Canon (l.reverse ++ q :: r)
  | [], q, r, h, _, _ => h
  | p :: l, q, r, h, hf, hs => by
    have hp : partOk p = 0 ∧ clash q.kind p.kind = false ∧ checkFrom (some p.kind) l = 0 := by
      simp only [checkFrom] at hf
      by_cases h1 : partOk p = 0
      · rw [if_neg (by simpa using h1)] at hf
        cases hc : clash q.kind p.kind with
        | true => simp [hc] at hf
        | false => exact ⟨h1, rfl, by simpa [hc] using hf⟩
      · rw [if_pos h1] at hf; exact absurd hf h1
    rw [List.reverse_cons, List.append_assoc]
    exact from_can l p (q :: r) ⟨hs p (List.mem_cons_self ..), hp.2.1, h⟩ hp.2.2 (fun x hx => hs x (List.mem_cons_of_mem _ hx))
theorem check_canon {o : Op} (h : check o = 0) : Canon o.reverse := by
  have h1 := (check_zero h).2.1
  have h0 : checkFrom none o = 0 := by
    unfold check at h
    by_cases h8 : 8001 < o.length
    · rw [if_pos h8] at h; omega
    · rw [if_neg h8] at h
      by_cases h2 : checkFrom none o = 0
      · exact h2
      · rw [if_pos h2] at h; exact h
  have hs : ∀ p ∈ o, Solid p := fun p hp => solid_of_ok (h1 p hp)
  cases o with
  | nil => trivial
  | cons p l =>
    rw [List.reverse_cons]
    have hp := h1 p (List.mem_cons_self ..)
    simp only [checkFrom] at h0
    rw [if_neg (by simpa using hp)] at h0
    exact from_can l p [] (hs p (List.mem_cons_self ..)) (by simpa using h0) (fun x hx => hs x (List.mem_cons_of_mem _ hx))
/-- an operation that may be, over runes -/
structure OpIs (o : Op) (l : List P) : Prop where
  eq : o = l.map P.part
  can : Can l.reverse
  ok : ∀ p ∈ l, p.ok
  f : sumF o = FS l
  t : sumT o = TS l
  fl : FS l ≤ 4000
  tl : TS l ≤ 4000
  len : l.length ≤ 8001
theorem opIs {o : Op} (h : check o = 0) : OpIs o (opP o) := by
  obtain ⟨h1, h2, h3, h4⟩ := check_zero h
  have hs : ∀ p ∈ o, Solid p := fun p hp => solid_of_ok (h2 p hp)
  have hok : ∀ p ∈ opP o, p.ok := by
    intro p hp
    simp only [opP, List.mem_map] at hp
    obtain ⟨q, hq, rfl⟩ := hp
    exact (toP_part (hs q hq)).2
  have he : o = (opP o).map P.part := by
    unfold opP
    rw [List.map_map]
    conv => lhs; rw [← List.map_id o]
    exact List.map_congr_left fun q hq => ((toP_part (hs q hq)).1).symm
  have hf : sumF o = FS (opP o) := by rw [← sumF_parts, ← he]
  have ht : sumT o = TS (opP o) := by rw [← sumT_parts _ hok, ← he]
  refine ⟨he, ?_, hok, hf, ht, by omega, by omega, by simp only [opP, List.length_map]; omega⟩
  refine canon_can (fun p hp => hok p (by simpa using hp)) ?_
  rw [List.map_reverse, ← he]
  exact check_canon h
theorem OpIs.check {o : Op} {l : List P} (h : OpIs o l) : check o = 0 := by
  have := can_check h.can (by simpa using h.len) (by rw [FS_rev]; exact h.fl) (by rw [TS_rev]; exact h.tl)
  rw [List.reverse_reverse] at this
  rw [h.eq]; exact this
theorem opIs_of {r : List P} (hc : Can r) (hf : FS r ≤ 4000) (ht : TS r ≤ 4000) : OpIs (r.reverse.map P.part) r.reverse :=
  have hok : ∀ p ∈ r.reverse, p.ok := fun p hp => hc.all p (by simpa using hp)
  ⟨rfl, by rw [List.reverse_reverse]; exact hc, hok, sumF_parts _, sumT_parts _ hok, by rw [FS_rev]; exact hf, by rw [TS_rev]; exact ht, by have := ok_len r hc.all; simp; omega⟩
theorem OpIs.opP {o : Op} {l : List P} (h : OpIs o l) : opP o = l := by
  rw [h.eq]; unfold Go.Proofs.YtkbfhgcjimfgkaaDoor.opP; rw [List.map_map]
  conv => rhs; rw [← List.map_id l]
  exact List.map_congr_left fun q hq => part_toP (h.ok q hq)
/-- building over parts and over parts of runes -/
theorem addR_part (p : P) (hp : ∀ l, p = .i l → ∀ r ∈ l, Uni.vr r) : ∀ r : List P, (∀ q ∈ r, q.ok) → addR (r.map P.part) p.part = (addP r p).map P.part := by
  have emp : ∀ l : List Nat, (∀ r ∈ l, Uni.vr r) → emptyS (Uni.enc l) = decide (l = []) := by
    intro l hl
    by_cases h : l = []
    · subst h; rw [show emptyS (Uni.enc []) = true from by rw [emptyS_iff]; rfl]; rfl
    · have := (part_solid (p := .i l) ⟨h, hl⟩)
      rcases this with ⟨h1, _⟩ | ⟨_, _, _, h4⟩
      · simp [P.part] at h1
      · simp only [P.part] at h4; rw [h4]; simp [h]
  cases p with
  | k n =>
    intro r hr
    have ht : triv (P.part (.k n)) = decide (n = 0) := by simp [triv, P.part]
    cases r with
    | nil => simp only [List.map_nil, addR, ht, addP]; by_cases h : n = 0 <;> simp [h]
    | cons q r =>
      simp only [List.map_cons, addR, ht, addP]
      by_cases h : n = 0
      · simp [h]
      · cases q <;> simp [h, P.part, app_noText]
  | d n =>
    intro r hr
    have ht : triv (P.part (.d n)) = decide (n = 0) := by simp [triv, P.part]
    cases r with
    | nil => simp only [List.map_nil, addR, ht, addP]; by_cases h : n = 0 <;> simp [h]
    | cons q r =>
      simp only [List.map_cons, addR, ht, addP]
      by_cases h : n = 0
      · simp [h]
      · cases q <;> simp [h, P.part, app_noText]
  | i l =>
    have hl := hp l rfl
    have ht : triv (P.part (.i l)) = decide (l = []) := by simp [triv, P.part, emp l hl]
    intro r
    induction r with
    | nil => intro _; simp only [List.map_nil, addR, ht, addP]; by_cases h : l = [] <;> simp [h]
    | cons q r ih =>
      intro hr
      have ih' := ih (fun q hq => hr q (List.mem_cons_of_mem _ hq))
      simp only [List.map_cons, addR, ht]
      by_cases h : l = []
      · subst h; cases q <;> simp [addP]
      · cases q with
        | k m => simp [addP, h, P.part]
        | i m => simp [addP, h, P.part, enc_append]
        | d m =>
          rw [show addP (.d m :: r) (.i l) = .d m :: addP r (.i l) from by simp [addP, h]]
          simp [h, P.part] at ih' ⊢
          exact ih'
end Go.Proofs.YtkbfhgcjimfgkaaDoor
