/- Plain: an operation that is made of raw things is one that may be. No program in sight. -/
import Derived.Test.YtkbfhgcjimfgkaaDoorOp
import Derived.Test.YtkbfhgcjimfgkaaDoorText2
set_option linter.unusedVariables false
set_option linter.unusedSimpArgs false
namespace Go.Proofs.YtkbfhgcjimfgkaaDoor
open Go.RowKit

theorem bytes_ext {a b : ByteArray} (h : a.data.toList = b.data.toList) : a = b := by
  apply ByteArray.ext
  exact Array.ext' h
theorem enc_dec_str (s : Str) (h : valid s = true) : Uni.enc (Uni.dec s.data.toList) = s ∧ ∀ r ∈ Uni.dec s.data.toList, Uni.vr r := by
  obtain ⟨h1, h2⟩ := Uni.enc_dec_all s.data.toList h
  refine ⟨bytes_ext ?_, h2⟩
  unfold Uni.enc
  simp only
  exact h1
theorem valid_ex {s : Str} (h : valid s = true) : ∃ rs, s = Uni.enc rs ∧ ∀ r ∈ rs, Uni.vr r := ⟨_, (enc_dec_str s h).1.symm, (enc_dec_str s h).2⟩
theorem enc_append (a b : List Nat) : Uni.enc (a ++ b) = Uni.enc a ++ Uni.enc b := by
  apply bytes_ext
  simp [Uni.enc, Uni.encL_append, ByteArray.data_append]
theorem append_valid {a b : Str} (ha : valid a = true) (hb : valid b = true) : valid (a ++ b) = true ∧ rc (a ++ b) = rc a + rc b := by
  obtain ⟨x, rfl, hx⟩ := valid_ex ha
  obtain ⟨y, rfl, hy⟩ := valid_ex hb
  have h : ∀ r ∈ x ++ y, Uni.vr r := fun r hr => by
    rcases List.mem_append.1 hr with h | h
    · exact hx r h
    · exact hy r h
  rw [← enc_append, valid_enc _ h, rc_enc _ h, rc_enc _ hx, rc_enc _ hy, List.length_append]
  exact ⟨rfl, by push_cast; rfl⟩
theorem loop_len (s : ByteArray) : ∀ (n i : Nat) (r : List UInt8), s.size - i ≤ n → (ByteArray.toList.loop s i r).length = r.length + (s.size - i) := by
  intro n
  induction n with
  | zero =>
    intro i r h
    unfold ByteArray.toList.loop
    rw [if_neg (by omega), List.length_reverse]
    omega
  | succ n ih =>
    intro i r h
    unfold ByteArray.toList.loop
    split
    · rw [ih _ _ (by omega), List.length_cons]
      omega
    · rw [List.length_reverse]
      omega
theorem emptyS_iff (s : Str) : emptyS s = true ↔ s.size = 0 := by
  unfold emptyS
  rw [List.isEmpty_iff, ← List.length_eq_zero_iff]
  unfold ByteArray.toList
  rw [loop_len s s.size 0 [] (by omega)]
  simp
theorem noText_valid : valid noText = true := rfl
theorem rc_noText : rc noText = 0 := rfl
theorem emptyS_noText : emptyS noText = true := by rw [emptyS_iff]; rfl
theorem emptyS_append (a b : Str) : emptyS (a ++ b) = (emptyS a && emptyS b) := by
  have h1 := emptyS_iff a
  have h2 := emptyS_iff b
  have h3 := emptyS_iff (a ++ b)
  rw [size_app] at h3
  rw [Bool.eq_iff_iff, Bool.and_eq_true, h1, h2, h3]
  omega
theorem app_noText (a : Str) : a ++ noText = a := by apply bytes_ext; simp [noText, ByteArray.data_append]
theorem noText_app (a : Str) : noText ++ a = a := by apply bytes_ext; simp [noText, ByteArray.data_append]
theorem eq_noText {s : Str} (h : emptyS s = true) : s = noText := by
  rw [emptyS_iff] at h
  apply bytes_ext
  have : s.data.toList.length = 0 := by simpa using h
  rw [List.eq_nil_of_length_eq_zero this]; rfl
theorem rc_empty {s : Str} (h : emptyS s = true) : rc s = 0 := by rw [eq_noText h]; rfl

/-- a part that may be added: a keep or a delete of so many runes, or an insert of a text -/
def Proto (p : Part) : Prop := ((p.kind = 1 ∨ p.kind = 3) ∧ 0 ≤ p.n ∧ p.text = noText) ∨ (p.kind = 2 ∧ p.n = 0 ∧ valid p.text = true)
/-- .. and that is not for nothing -/
def Solid (p : Part) : Prop := ((p.kind = 1 ∨ p.kind = 3) ∧ 1 ≤ p.n ∧ p.text = noText) ∨ (p.kind = 2 ∧ p.n = 0 ∧ valid p.text = true ∧ emptyS p.text = false)
/-- parts, the last one first, in their one form -/
def Canon : List Part → Prop
  | [] => True
  | [p] => Solid p
  | p :: q :: r => Solid p ∧ clash q.kind p.kind = false ∧ Canon (q :: r)
theorem Canon.tail {p : Part} {r : List Part} (h : Canon (p :: r)) : Canon r := by
  cases r with
  | nil => trivial
  | cons q r => exact h.2.2
theorem Canon.head {p : Part} {r : List Part} (h : Canon (p :: r)) : Solid p := by
  cases r with
  | nil => exact h
  | cons q r => exact h.1
theorem Canon.all {r : List Part} (h : Canon r) : ∀ p ∈ r, Solid p := by
  induction r with
  | nil => simp
  | cons q r ih =>
    intro p hp
    rcases List.mem_cons.1 hp with rfl | hp
    · exact h.head
    · exact ih h.tail p hp
theorem Canon.cons {p : Part} {r : List Part} (h : Canon r) (hp : Solid p) (hc : ∀ q, r.head? = some q → clash q.kind p.kind = false) : Canon (p :: r) := by
  cases r with
  | nil => exact hp
  | cons q r => exact ⟨hp, hc q rfl, h⟩
theorem Proto.solid {p : Part} (h : Proto p) (ht : triv p = false) : Solid p := by
  rcases h with ⟨hk, hn, ht2⟩ | ⟨hk, hn, hv⟩
  · left
    refine ⟨hk, ?_, ht2⟩
    have : p.n ≠ 0 := by
      intro h0
      rcases hk with hk | hk <;> simp [triv, hk, h0] at ht
    omega
  · right
    refine ⟨hk, hn, hv, ?_⟩
    simpa [triv, hk] using ht
theorem Solid.proto {p : Part} (h : Solid p) : Proto p := by
  rcases h with ⟨a, b, c⟩ | ⟨a, b, c, _⟩
  · exact .inl ⟨a, by omega, c⟩
  · exact .inr ⟨a, b, c⟩
theorem merge_solid {p q : Part} (hq : Solid q) (hp : Proto p) (hk : q.kind = p.kind) : Solid ⟨q.kind, q.n + p.n, q.text ++ p.text⟩ := by
  rcases hq with ⟨a, b, c⟩ | ⟨a, b, c, d⟩
  · rcases hp with ⟨a', b', c'⟩ | ⟨a', _, _⟩
    · exact .inl ⟨a, by simp only; omega, by simp only [c, c', app_noText]⟩
    · omega
  · rcases hp with ⟨a', _, _⟩ | ⟨a', b', c'⟩
    · omega
    · exact .inr ⟨a, by simp only; omega, (append_valid c c').1, by simp only [emptyS_append, d, Bool.false_and]⟩
theorem clash_false {q p : Int} (h1 : ¬ q = p) (h2 : ¬ (p = 2 ∧ q = 3)) : clash q p = false := by
  unfold clash; simp; exact ⟨h1, fun h => fun h' => h2 ⟨h', h⟩⟩
/-- added parts stand in their one form; what a text of parts begins with is said, too -/
theorem addR_canon {p : Part} (hp : Proto p) : ∀ {r : List Part}, Canon r → Canon (addR r p) ∧ (triv p = false → p.kind = 2 → (∀ q, r.head? = some q → q.kind ≠ 3) → ∀ q, (addR r p).head? = some q → q.kind = 2)
  | [], _ => by
    cases ht : triv p with
    | true => simp [addR, ht, Canon]
    | false => rw [addR_nil ht]; exact ⟨hp.solid ht, fun _ hk _ q hq => by simp at hq; rw [← hq]; exact hk⟩
  | q :: r, hc => by
    cases ht : triv p with
    | true => simp only [addR, ht]; exact ⟨hc, fun h => by cases h⟩
    | false =>
      by_cases h1 : q.kind = p.kind
      · rw [addR_merge ht h1]
        refine ⟨hc.tail.cons (merge_solid hc.head hp h1) (fun x hx => ?_), fun _ hk _ y hy => by simp at hy; rw [← hy]; simp only; omega⟩
        cases r with
        | nil => cases hx
        | cons z r => simp at hx; subst hx; exact hc.2.1
      · by_cases h2 : p.kind = 2 ∧ q.kind = 3
        · rw [addR_swap ht h1 h2]
          have ih := addR_canon hp hc.tail
          have hh : ∀ x, r.head? = some x → x.kind ≠ 3 := by
            intro x hx
            cases r with
            | nil => cases hx
            | cons z r =>
              simp at hx; subst hx
              have := hc.2.1
              unfold clash at this
              simp at this
              omega
          refine ⟨ih.1.cons hc.head (fun x hx => ?_), fun _ _ hq => absurd h2.2 (hq q rfl)⟩
          have := ih.2 ht h2.1 hh x hx
          rw [this, h2.2]; rfl
        · rw [addR_more ht h1 h2]
          exact ⟨⟨hp.solid ht, clash_false h1 h2, hc⟩, fun _ hk _ y hy => by simp at hy; rw [← hy]; exact hk⟩

theorem sum_perm (f : Part → Int) (r : List Part) : (r.reverse.map f).sum = (r.map f).sum := by
  induction r with
  | nil => rfl
  | cons p r ih => simp only [List.reverse_cons, List.map_append, List.sum_append, ih, List.map_cons, List.sum_cons, List.map_nil, List.sum_nil]; omega
theorem addR_sum (f : Part → Int) (P : Part → Prop) {p : Part} (hp : P p) (h0 : triv p = true → f p = 0) (hadd : ∀ q, P q → q.kind = p.kind → f ⟨q.kind, q.n + p.n, q.text ++ p.text⟩ = f q + f p) : ∀ r : List Part, (∀ q ∈ r, P q) → ((addR r p).map f).sum = (r.map f).sum + f p
  | [], _ => by
    cases ht : triv p with
    | true => simp [addR, ht, h0 ht]
    | false => rw [addR_nil ht]; simp
  | q :: r, hr => by
    cases ht : triv p with
    | true => simp [addR, ht, h0 ht]
    | false =>
      by_cases h1 : q.kind = p.kind
      · rw [addR_merge ht h1]
        simp only [List.map_cons, List.sum_cons]
        rw [hadd q (hr q (by simp)) h1]
        omega
      · by_cases h2 : p.kind = 2 ∧ q.kind = 3
        · rw [addR_swap ht h1 h2]
          have ih := addR_sum f P hp h0 hadd r (fun q h => hr q (by simp [h]))
          simp only [List.map_cons, List.sum_cons]
          omega
        · rw [addR_more ht h1 h2]
          simp only [List.map_cons, List.sum_cons]
          omega
theorem lenF_triv {p : Part} (h : triv p = true) : lenF p = 0 := by
  unfold triv at h; unfold lenF
  simp at h
  split
  · rename_i hk; rcases h with h | h
    · exact h.2
    · omega
  · rfl
theorem lenT_triv {p : Part} (h : triv p = true) : lenT p = 0 := by
  unfold triv at h; unfold lenT
  simp at h
  split
  · rename_i hk; rcases h with h | h
    · exact h.2
    · omega
  · split
    · rename_i hk; rcases h with h | h
      · exact absurd hk h.1
      · exact rc_empty h.2
    · rfl
theorem lenF_merge (q p : Part) (hk : q.kind = p.kind) : lenF ⟨q.kind, q.n + p.n, q.text ++ p.text⟩ = lenF q + lenF p := by
  unfold lenF; simp only [hk]; split <;> omega
theorem lenT_merge {q p : Part} (hq : Proto q) (hp : Proto p) (hk : q.kind = p.kind) : lenT ⟨q.kind, q.n + p.n, q.text ++ p.text⟩ = lenT q + lenT p := by
  unfold lenT; simp only [hk]
  split
  · rfl
  · split
    · rename_i h1 h2
      rcases hq with ⟨a, _, _⟩ | ⟨_, _, c⟩
      · omega
      · rcases hp with ⟨a, _, _⟩ | ⟨_, _, c'⟩
        · omega
        · exact (append_valid c c').2
    · rfl
theorem addR_sumF {p : Part} (r : List Part) : sumF (addR r p) = sumF r + lenF p := addR_sum lenF (fun _ => True) trivial lenF_triv (fun _ _ hk => lenF_merge _ p hk) r (fun _ _ => trivial)
theorem addR_sumT {p : Part} (hp : Proto p) (r : List Part) (hr : Canon r) : sumT (addR r p) = sumT r + lenT p := addR_sum lenT Proto hp lenT_triv (fun _ hq hk => lenT_merge hq hp hk) r (fun q h => (hr.all q h).proto)

/-! ### what is made of raw things may be -/
structure Lays (n : Int) (i : Nat) (st : List Part × Int) : Prop where
  canon : Canon st.1
  sumF : sumF st.1 + st.2 = n
  left : 0 ≤ st.2
  sumT : 0 ≤ sumT st.1 ∧ sumT st.1 + st.2 ≤ n + 4 * i
theorem proto_keep (k : Int) (h : 0 ≤ k) : Proto ⟨1, k, noText⟩ := .inl ⟨.inl rfl, h, rfl⟩
theorem proto_del (k : Int) (h : 0 ≤ k) : Proto ⟨3, k, noText⟩ := .inl ⟨.inr rfl, h, rfl⟩
theorem proto_ins (t : Str) (h : valid t = true) : Proto ⟨2, 0, t⟩ := .inr ⟨rfl, rfl, h⟩
theorem letters_valid (s : Str) (m : Nat) : valid (letters s m) = true := valid_enc _ (lets_vr s m)
theorem letters_rc (s : Str) (m : Nat) : rc (letters s m) = min m s.size := by
  unfold letters; rw [rc_enc _ (lets_vr s m), lets_len]
theorem lenF_keep (k : Int) : lenF ⟨1, k, noText⟩ = k := by simp [lenF]
theorem lenT_keep (k : Int) : lenT ⟨1, k, noText⟩ = k := by simp [lenT]
theorem lenF_del (k : Int) : lenF ⟨3, k, noText⟩ = k := by simp [lenF]
theorem lenT_del (k : Int) : lenT ⟨3, k, noText⟩ = 0 := by simp [lenT]
theorem lenF_ins (t : Str) : lenF ⟨2, 0, t⟩ = 0 := by simp [lenF]
theorem lenT_ins (t : Str) : lenT ⟨2, 0, t⟩ = rc t := by simp [lenT]
/-- what the texts of raw things are to be -/
def Texts (f : Raw → Str) : Prop := ∀ x, valid (f x) = true ∧ rc (f x) ≤ 4
theorem opStep_lays {n : Int} {i : Nat} {st : List Part × Int} {f : Raw → Str} (hf : Texts f) (x : Raw) (h : Lays n i st) : Lays n (i + 1) (opStep f st x) := by
  have h1 := h.left
  have h2 := h.sumF
  have h3 := h.sumT
  have ha := pk_range x.a 6 (by omega)
  have hk1 : 0 ≤ min (pk x.a 6) st.2 := by omega
  have hk2 : min (pk x.a 6) st.2 ≤ st.2 := by omega
  have hr := hf x
  have hr0 := rc_nonneg (f x)
  have main : ∀ st1 : List Part × Int, Lays n i st1 → Lays n (i + 1) (if pk x.b 2 = 0 then (addR st1.1 ⟨2, 0, f x⟩, st1.2) else st1) := by
    intro st1 g
    have g3 := g.sumT
    by_cases hb : pk x.b 2 = 0
    · rw [if_pos hb]
      exact ⟨(addR_canon (proto_ins _ hr.1) g.canon).1, by simp only [addR_sumF, lenF_ins]; have := g.sumF; omega, g.left, by simp only [addR_sumT (proto_ins _ hr.1) _ g.canon, lenT_ins]; push_cast; omega⟩
    · rw [if_neg hb]
      exact ⟨g.canon, g.sumF, g.left, by push_cast; omega⟩
  unfold opStep
  simp only
  generalize min (pk x.a 6) st.2 = k at *
  by_cases c1 : pk x.kind 4 = 0 ∨ pk x.kind 4 = 1
  · rw [if_pos c1]
    exact main _ ⟨(addR_canon (proto_keep k hk1) h.canon).1, by simp only [addR_sumF, lenF_keep]; omega, by simp only; omega, by simp only [addR_sumT (proto_keep k hk1) _ h.canon, lenT_keep]; omega⟩
  · rw [if_neg c1]
    by_cases c2 : pk x.kind 4 = 2
    · rw [if_pos c2]
      exact main _ ⟨(addR_canon (proto_del k hk1) h.canon).1, by simp only [addR_sumF, lenF_del]; omega, by simp only; omega, by simp only [addR_sumT (proto_del k hk1) _ h.canon, lenT_del]; omega⟩
    · rw [if_neg c2]
      exact main _ h
theorem opRun_lays {f : Raw → Str} (hf : Texts f) (n : Int) (hn : 0 ≤ n) (l : List Raw) : ∀ k, k ≤ l.length → Lays n k (opRun f n (l.take k)) := by
  intro k
  induction k with
  | zero => intro _; simp only [List.take_zero, opRun, List.foldl_nil]; exact ⟨trivial, by simp [sumF], hn, by simp [sumT]⟩
  | succ k ih =>
    intro hk
    rw [opRun_next f n l k (by omega)]
    exact opStep_lays hf _ (ih (by omega))
theorem opOf_lays {f : Raw → Str} (hf : Texts f) (n : Int) (hn : 0 ≤ n) (l : List Raw) : ∃ r, opOf f n l = r.reverse ∧ Canon r ∧ sumF r = n ∧ 0 ≤ sumT r ∧ sumT r ≤ n + 24 := by
  have h := opRun_lays hf n hn (l.take 6) (l.take 6).length (Nat.le_refl _)
  rw [List.take_length] at h
  have h3 := h.sumT
  have hl : (l.take 6).length ≤ 6 := by rw [List.length_take]; omega
  refine ⟨_, rfl, (addR_canon (proto_keep _ h.left) h.canon).1, by rw [addR_sumF, lenF_keep]; exact h.sumF, ?_, ?_⟩
  · rw [addR_sumT (proto_keep _ h.left) _ h.canon, lenT_keep]; have := h.left; omega
  · rw [addR_sumT (proto_keep _ h.left) _ h.canon, lenT_keep]; omega

theorem lens_nonneg {p : Part} (h : Solid p) : 0 ≤ lenF p ∧ 0 ≤ lenT p := by
  have := rc_nonneg p.text
  unfold lenF lenT
  rcases h with ⟨hk, hn, _⟩ | ⟨hk, hn, _⟩
  · rcases hk with hk | hk <;> simp [hk] <;> omega
  · simp [hk]; omega
theorem le_sum (f : Part → Int) : ∀ r : List Part, (∀ p ∈ r, 0 ≤ f p) → 0 ≤ (r.map f).sum ∧ ∀ p ∈ r, f p ≤ (r.map f).sum
  | [], _ => by simp
  | q :: r, h => by
    have h1 := le_sum f r (fun p hp => h p (by simp [hp]))
    have h2 := h q (by simp)
    simp only [List.map_cons, List.sum_cons]
    refine ⟨by omega, fun p hp => ?_⟩
    rcases List.mem_cons.1 hp with rfl | hp
    · omega
    · have := h1.2 p hp; omega
theorem solid_ok {p : Part} (h : Solid p) (hf : lenF p ≤ 4000) (ht : lenT p ≤ 4000) : partOk p = 0 := by
  unfold partOk checkText
  unfold lenF at hf
  unfold lenT at ht
  rcases h with ⟨hk, hn, h3⟩ | ⟨hk, hn, hv, he⟩
  · rw [if_pos hk] at hf ⊢
    rw [if_neg (by omega), h3, emptyS_noText]; rfl
  · simp [hk] at ht
    rw [if_neg (by omega), if_pos hk, hv, hn, he]
    simp
    omega
def clashO (q : Option Int) (k : Int) : Bool := match q with | some q => clash q k | none => false
def lastK (q : Option Int) (l : Op) : Option Int := match l.getLast? with | some x => some x.kind | none => q
theorem checkFrom_snoc (p : Part) (hp : partOk p = 0) : ∀ (l : Op) (q : Option Int), checkFrom q l = 0 → clashO (lastK q l) p.kind = false → checkFrom q (l ++ [p]) = 0
  | [], q, _, hc => by
    rw [List.nil_append, checkFrom_drop q p [] hp hc]; rfl
  | x :: l, q, h, hc => by
    have hx : partOk x = 0 := by
      by_cases h0 : partOk x = 0
      · exact h0
      · cases q <;> simp only [checkFrom] at h <;> rw [if_pos h0] at h <;> exact h
    have hq : clashO q x.kind = false := by
      cases hh : clashO q x.kind with
      | false => rfl
      | true => rw [checkFrom_clash q x l hx hh] at h; omega
    rw [checkFrom_drop q x l hx hq] at h
    rw [List.cons_append, checkFrom_drop q x _ hx hq]
    refine checkFrom_snoc p hp l (some x.kind) h ?_
    cases l with
    | nil => exact hc
    | cons y l =>
      have e : lastK q (x :: y :: l) = lastK (some x.kind) (y :: l) := by
        unfold lastK; rw [List.getLast?_cons_cons, List.getLast?_eq_some_getLast (by simp)]
      rw [← e]; exact hc
theorem canon_from : ∀ (r : List Part), Canon r → (∀ p ∈ r, partOk p = 0) → checkFrom none r.reverse = 0
  | [], _, _ => rfl
  | p :: r, hc, h => by
    rw [List.reverse_cons]
    refine checkFrom_snoc p (h p (by simp)) _ none (canon_from r hc.tail (fun q hq => h q (by simp [hq]))) ?_
    cases r with
    | nil => rfl
    | cons q r => unfold lastK; simp; exact hc.2.1
/-- parts in their one form, that are not too long, may be -/
theorem canon_check {r : List Part} (hc : Canon r) (hl : r.length ≤ 8001) (hf : sumF r ≤ 4000) (ht : sumT r ≤ 4000) : check r.reverse = 0 := by
  have ef : sumF r.reverse = sumF r := sum_perm lenF r
  have et : sumT r.reverse = sumT r := sum_perm lenT r
  have hF := (le_sum lenF r (fun p hp => (lens_nonneg (hc.all p hp)).1)).2
  have hT := (le_sum lenT r (fun p hp => (lens_nonneg (hc.all p hp)).2)).2
  have hok : ∀ p ∈ r, partOk p = 0 := fun p hp => solid_ok (hc.all p hp) (by have := hF p hp; unfold sumF at hf; omega) (by have := hT p hp; unfold sumT at ht; omega)
  unfold check
  rw [if_neg (by rw [List.length_reverse]; omega), canon_from r hc hok, ef, et, if_neg (by simp), if_neg (by omega)]
theorem opRun_len (f : Raw → Str) (n : Int) (l : List Raw) : (opRun f n l).1.length ≤ 2 * l.length := by
  unfold opRun
  have key : ∀ (l : List Raw) (st : List Part × Int), (l.foldl (opStep f) st).1.length ≤ st.1.length + 2 * l.length := by
    intro l
    induction l with
    | nil => intro st; simp
    | cons x l ih =>
      intro st
      have h1 := ih (opStep f st x)
      have h2 : (opStep f st x).1.length ≤ st.1.length + 2 := by
        unfold opStep
        simp only
        have a1 := fun k t => addR_len st.1 ⟨1, k, t⟩
        have a3 := fun k t => addR_len st.1 ⟨3, k, t⟩
        (repeat' split) <;> (try simp only) <;> (first | (refine Nat.le_trans (addR_len _ _) ?_) | skip) <;> (first | (refine Nat.le_trans (Nat.add_le_add_right (addR_len _ _) 1) ?_) | skip) <;> (first | omega | (have := addR_len st.1 ⟨1, min (pk x.a 6) st.2, noText⟩; have := addR_len st.1 ⟨3, min (pk x.a 6) st.2, noText⟩; omega))
      simp only [List.foldl_cons, List.length_cons]
      omega
  have := key l ([], n)
  simpa using this
theorem opOf_len (f : Raw → Str) (n : Int) (l : List Raw) : (opOf f n l).length ≤ 13 := by
  unfold opOf
  simp only [List.length_reverse]
  have h1 := addR_len (opRun f n (l.take 6)).1 ⟨1, (opRun f n (l.take 6)).2, noText⟩
  have h2 := opRun_len f n (l.take 6)
  rw [List.length_take] at h2
  omega
/-- WHAT IS MADE OF RAW THINGS MAY BE, and fits its text -/
theorem opOf_good {f : Raw → Str} (hf : Texts f) (n : Int) (hn : 0 ≤ n) (hn' : n ≤ 3976) (l : List Raw) : check (opOf f n l) = 0 ∧ sumF (opOf f n l) = n ∧ 0 ≤ sumT (opOf f n l) ∧ sumT (opOf f n l) ≤ n + 24 := by
  obtain ⟨r, e, hc, h1, h2, h3⟩ := opOf_lays hf n hn l
  have hlen := opOf_len f n l
  rw [e] at hlen ⊢
  rw [List.length_reverse] at hlen
  have ef : sumF r.reverse = sumF r := sum_perm lenF r
  have et : sumT r.reverse = sumT r := sum_perm lenT r
  exact ⟨canon_check hc (by omega) (by omega) (by omega), by rw [ef]; exact h1, by rw [et]; exact h2, by rw [et]; exact h3⟩
theorem texts_letters : Texts rawText := fun x => ⟨letters_valid _ _, by unfold rawText; rw [letters_rc]; omega⟩

/-! ### the walk of Op -/
theorem opOf_fits {f : Raw → Str} (hf : ∀ x, (f x).size ≤ 16) (n : Int) (hn : 0 ≤ n) (hn' : n ≤ 1000000000) (l : List Raw) : ∀ p ∈ opOf f n l, I64 p.kind ∧ I64 p.n ∧ p.text.size ≤ strMax := by
  have h := opRun_stands f n hn (l.take 6) (fun x _ => hf x) (l.take 6).length (Nat.le_refl _)
  rw [List.take_length] at h
  have hl : (l.take 6).length ≤ 6 := by rw [List.length_take]; omega
  have h2 := (h.keep 1 (by omega) _ ⟨h.left.1, Int.le_refl _⟩).1
  intro p hp
  unfold opOf at hp
  simp only [List.mem_reverse] at hp
  have := h2 p hp
  unfold I64 strMax
  omega
theorem opOf_rd {f : Raw → Str} (hf : ∀ x, (f x).size ≤ 16) {n : Int} (hn : 0 ≤ n) (hn' : n ≤ 1000000000) {l : List Raw} {w w' : World} {a : Option Addr} {c : Nat}
    (h : w'.ownsRow w.heap.size 53 3 (.slice a (opOf f n l).length c) (opOf f n l).length (flat (opOf f n l))) : RdS (fun b => w.heap.size ≤ b) w' (opOf f n l) a (opOf f n l).length c := by
  have hp := opOf_fits hf n hn hn' l
  generalize opOf f n l = o at *
  obtain ⟨a', n', c', hv, hr⟩ := RdS.of_row (α := Part) (A := fun b => w.heap.size ≤ b) h (fun b hb => (h.lt b hb).1) (fun i x hx => ⟨partCells x, ⟨rfl, hp x (List.mem_of_getElem? hx)⟩, fun j u hu => by
    obtain ⟨h1, h2, h3⟩ := flat_at o i x hx
    simp only [Rep.n]
    match j, hu with
    | 0, hu => simp [partCells] at hu; rw [← hu]; exact h1
    | 1, hu => simp [partCells] at hu; rw [← hu]; exact h2
    | 2, hu => simp [partCells] at hu; rw [← hu]; exact h3⟩)
  have e := (Value.slice.injEq .. ▸ hv : a = a' ∧ o.length = n' ∧ c = c')
  obtain ⟨rfl, rfl, rfl⟩ := e
  exact hr

set_option maxHeartbeats 400000 in
theorem mkOp_any (A : Nat → Prop) (n : Int) (l : List Raw) (a : Option Addr) (m c : Nat) (w : World) (hA : ∀ b, A b → b < w.heap.size) (hr : RdS A w l a m c) (hn : 0 ≤ n) (hn' : n ≤ 1000000000) :
    Calls Tryd.prog 19 #[.int .i64 n, .slice a m c] w fun e w' => ∃ a' c', e = .returned (.slice a' (mkOp n l).length c') ∧ RdS (fun b => w.heap.size ≤ b) w' (mkOp n l) a' (mkOp n l).length c' ∧ Below w.heap.size w w' := by
  have H := Lib.hid (op_any A n l a m c w hA hr hn hn')
  clear hr
  have Hrd : Hid (∀ (w' : World) (a' : Option Addr) (c' : Nat), w'.ownsRow w.heap.size 53 3 (.slice a' (mkOp n l).length c') (mkOp n l).length (flat (mkOp n l)) → RdS (fun b => w.heap.size ≤ b) w' (mkOp n l) a' (mkOp n l).length c') :=
    fun w' a' c' h => opOf_rd (fun x => by unfold rawText; have := letters_size x.text 4; omega) hn hn' h
  have e : ∀ w', OpPost n l rawText w w' = OpPost n l rawText w w' := fun _ => rfl
  clear e
  unfold OpPost at H
  change Hid (Calls _ _ _ _ fun e w' => ∃ a c, e = .returned (.slice a (mkOp n l).length c) ∧ w'.ownsRow w.heap.size 53 3 (.slice a (mkOp n l).length c) (mkOp n l).length (flat (mkOp n l)) ∧ Below w.heap.size w w') at H
  generalize mkOp n l = o at *
  go_enter Tryd.func19, Tryd.ntmps19
  go_wp2_with fail
  refine H.out.mono ?_
  rintro e w1 ⟨a1, c1, rfl, hown, hb⟩
  go_wp2_with fail
  go_ret
  exact ⟨a1, c1, rfl, Hrd.out _ _ _ hown, hb⟩
end Go.Proofs.YtkbfhgcjimfgkaaDoor
